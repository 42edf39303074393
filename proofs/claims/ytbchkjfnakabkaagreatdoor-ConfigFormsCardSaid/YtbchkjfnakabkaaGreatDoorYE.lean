import Derived.Test.YtbchkjfnakabkaaGreatDoorYCD
import Derived.Test.YtbchkjfnakabkaaGreatDoorY47
import Derived.Test.YtbchkjfnakabkaaGreatDoorR4
set_option linter.unusedSimpArgs false
set_option linter.unusedVariables false
set_option maxHeartbeats 16000000
set_option maxRecDepth 100000
namespace Go.Proofs.YtbchkjfnakabkaaGreatDoor
open Go.RowKit PX PC
theorem ZfM(w:World)(S:ByteArray):Calls Tryz.prog 48 #[.string S] w fun e w'=>∃ rb,e=.returned (.pointer (some ⟨rb,0,none⟩))∧w.heap.size≤rb∧RdAt w' rb S 0 0∧Later w w':=by
 go_enter Tryz.func48,Tryz.ntmps48
 go_wp2_with fail
 go_ret
 exact⟨w.heap.size,rfl,Nat.le_refl _,Ze w _,(Later.refl w).alloc _⟩
def Zgf:Vol:=⟨0,0,0,0⟩
def Y4:Cfg:=⟨0,[],[],[],[],[],Zgf,0,0,[],[],⟨#[]⟩,0,0⟩
def QK:List Value:=[.int .i64 0,.slice none 0 0,.slice none 0 0,.slice none 0 0,.slice none 0 0,.slice none 0 0,.int .i64 0,.int .i64 0,.int .i64 0,.int .i64 0,.int .i64 0,.int .i64 0,.slice none 0 0,.slice none 0 0,.string ⟨#[]⟩,.int .i64 0,.int .i64 0]
theorem ZbK(w:World):CfgIn w QK Y4:=⟨⟨_,_,_,_,_,_,_,rfl,RowAt.nil w 2,RowAt.nil w 2,RowAt.nil w 3,RowAt.nil w 5,RowAt.nil w 4,RowAt.nil w 5,RowAt.nil w 1⟩⟩
def Df(S:ByteArray)(w:World)(e:Ending)(w':World):Prop:=
 ∃ cs,e=.returned (.tuple #[.agg cs.toArray,.int .i64 (if Ye S.data.toList=none then 110 else 0)])∧CfgIn w' cs ((Ye S.data.toList).getD Y4)∧Later w w'
theorem VN{fn:Func}{p q:Tmp}{ty:TypeId}(h:fn.results=#[.cell p ty,.tmp q])(tmps:Array Value)(P:Program)(w:World)(g:Nat)(t:TypeId)(cs:Array Value)(fr:Nat × Nat)(fs:Array Field)
 (hp:tmps.getD p undef=.pointer (some ⟨g,0,none⟩)) (hg:w.heap[g]?=some (.cells cs t fr))
 (hu:P.underlying ty=some (.struct fs)) (hi:(P.info? ty).map (·.size)=some cs.size) :
 (results fn tmps).run P w=.ok (.tuple #[.agg cs,tmps.getD q undef]) w:=by
 have hp':tmps[p]?.getD undef=.pointer (some ⟨g,0,none⟩):=by simpa using hp
 simp[results,h,hp',asAddr,run_loadVar_row w g t ty cs fr (.struct fs) hg hu rfl hi]
theorem tup2{x a b:Value}(h:a=b):Ending.returned (.tuple #[x,a])=.returned (.tuple #[x,b]):=by rw[h]
theorem BV:(Tryz.prog.info? 32).map (·.size)=some 17:=by kernel_rfl
theorem Q9(S MB:ByteArray)(rt:Bool)(h1:(if S.size<4 then(⟨#[]⟩:ByteArray) else S.extract 0 4)=MB)(h2:(MB.toList==[67,83,84,49])=rt):(rt=true↔S.data.toList.take 4=Ws)∧(rt=true→¬ S.size<4):=by
 have hl:=Us S;by_cases h4:S.size<4
 ·rw[if_pos h4]at h1;subst h1;have:rt=false:=by rw[←h2,ByteArray.toList_eq];rfl
  rw[this];refine⟨⟨fun e=>(by cases e),fun e=>?_⟩,fun e=>(by cases e)⟩;have:=congrArg List.length e;rw[List.length_take,hl]at this;have h4':Ws.length=4:=rfl;omega
 ·rw[if_neg h4]at h1
  have hm:MB.toList=S.data.toList.take 4:=by
   rw[←h1,ByteArray.toList_eq];simp[ByteArray.data_extract,Array.toList_extract,List.extract_eq_take_drop]
  rw[hm]at h2;refine⟨?_,fun _=>h4⟩;rw[←h2,beq_iff_eq];rfl
theorem ZcO{S MB:ByteArray}{rt:Bool}{t0:RSt}{c:Cfg}(h1:(if S.size<4 then(⟨#[]⟩:ByteArray) else S.extract 0 4)=MB)(h2:(MB.toList==[67,83,84,49])=rt)(h3:(if S.size<4 then(none:RSt) else some (S.data.toList.drop 4))=t0)
 (hr:rt=true) (hg:cfgG t0=(c,some [])):Ye S.data.toList=some c:=by
 obtain⟨g1,g2⟩:=Q9 S MB rt h1 h2;rw[if_neg (g2 hr)]at h3;rw[Ye,if_pos (g1.1 hr),h3,hg,if_pos rfl]
theorem BG{S MB:ByteArray}{rt:Bool}{t0 t:RSt}{c:Cfg}(h1:(if S.size<4 then(⟨#[]⟩:ByteArray) else S.extract 0 4)=MB)(h2:(MB.toList==[67,83,84,49])=rt)(h3:(if S.size<4 then(none:RSt) else some (S.data.toList.drop 4))=t0)
 (hg:cfgG t0=(c,t)) (hr:rt=false∨t≠some []):Ye S.data.toList=none:=by
 obtain⟨g1,g2⟩:=Q9 S MB rt h1 h2;rw[Ye]
 cases rt with
 |false=>rw[if_neg (fun e=>by have:=g1.2 e;cases this)]
 |true=>
  rw[if_neg (g2 rfl)]at h3;rw[if_pos (g1.1 rfl),h3,hg,if_neg];rcases hr with hr|hr
  ·cases hr
  ·exact hr
theorem RowHi.val{α:Type}{B:Nat}{w:World}{k:Nat}{v:Value}{f:α→List Value}{l:List α}(h:RowHi B w k v (l.map f)):∃ a cap,v=.slice a l.length cap:=by
 obtain⟨a,cap,h1,-⟩:=h;exact⟨a,cap,by rw[h1,List.length_map]⟩
def Two(rb cb rp:Nat)(k:Nat):Prop:=k=rb∨k=cb
def Zil(rb cb rp:Nat)(k:Nat):Prop:=k=rb∨k=cb∨k=rp
abbrev OnlyT(rb cb rp:Nat)(w w':World):Prop:=Only (Two rb cb rp) w w'
abbrev OnlyU(rb cb rp:Nat)(w w':World):Prop:=Only (Zil rb cb rp) w w'
theorem OnlyT.u{rb cb rp:Nat}{a b:World}(h:OnlyT rb cb rp a b):OnlyU rb cb rp a b:=h.mono fun k _ hk=>by rcases hk with hk|hk;exact .inl hk;exact .inr (.inl hk)
theorem OnlyU.setR{rb cb rp:Nat}{a w:World}(h:OnlyU rb cb rp a w)(C:Array Value):OnlyU rb cb rp a (w.setRow rp C):=Only.setRow h (.inl (show Zil rb cb rp rp from .inr (.inr rfl))) C
theorem OnlyT.of{rb cb rp:Nat}{a b:World}(h:Zo rb a b):OnlyT rb cb rp a b:=h.mono fun k _ hk=>.inl hk
theorem OnlyT.then{rb cb rp:Nat}{a b c:World}(h:OnlyT rb cb rp a b)(k:OnlyT rb cb rp b c):OnlyT rb cb rp a c:=h.trans (k.mono fun q _ hq=>.inl hq)
theorem OnlyT.setC{rb cb rp:Nat}{a w:World}(h:OnlyT rb cb rp a w)(j:Nat)(u:Value):OnlyT rb cb rp a (w.setCell ⟨cb,j,none⟩ u):=h.setCell (.inl (show Two rb cb rp cb from .inr rfl)) u
theorem OnlyT.thenP{rb cb rp:Nat}{a b c:World}(h:OnlyT rb cb rp a b)(k:Zo rb b c):OnlyT rb cb rp a c:=h.then (OnlyT.of k)
theorem Za4(w:World)(S:ByteArray)(hS:S.size≤9223372036854775807):Calls Tryz.prog 17 #[.string S] w (Df S w):=by
 obtain⟨t0,ht0⟩:∃ t0,(if S.size<4 then(none:RSt) else some (S.data.toList.drop 4))=t0:=⟨_,rfl⟩
 obtain⟨MB,hMB⟩:∃ MB,(if S.size<4 then(⟨#[]⟩:ByteArray) else S.extract 0 4)=MB:=⟨_,rfl⟩
 obtain⟨qa,hqa⟩:∃ x,(getN 1 t0).1=x:=⟨_,rfl⟩
 obtain⟨t1,ht1⟩:∃ x,(getN 1 t0).2=x:=⟨_,rfl⟩
 obtain⟨qf,hqf⟩:∃ x,(getL YD t1).1=x:=⟨_,rfl⟩
 obtain⟨t2,ht2⟩:∃ x,(getL YD t1).2=x:=⟨_,rfl⟩
 obtain⟨qp,hqp⟩:∃ x,(getL YC t2).1=x:=⟨_,rfl⟩
 obtain⟨t3,ht3⟩:∃ x,(getL YC t2).2=x:=⟨_,rfl⟩
 obtain⟨qwn,hqwn⟩:∃ x,(getL winG t3).1=x:=⟨_,rfl⟩
 obtain⟨t4,ht4⟩:∃ x,(getL winG t3).2=x:=⟨_,rfl⟩
 obtain⟨qpo,hqpo⟩:∃ x,(getL porG t4).1=x:=⟨_,rfl⟩
 obtain⟨t5,ht5⟩:∃ x,(getL porG t4).2=x:=⟨_,rfl⟩
 obtain⟨qv,hqv⟩:∃ x,(getL volG t5).1=x:=⟨_,rfl⟩
 obtain⟨t6,ht6⟩:∃ x,(getL volG t5).2=x:=⟨_,rfl⟩
 obtain⟨qx,hqx⟩:∃ x,(getN 2 t6).1=x:=⟨_,rfl⟩
 obtain⟨t7,ht7⟩:∃ x,(getN 2 t6).2=x:=⟨_,rfl⟩
 obtain⟨qy,hqy⟩:∃ x,(getN 2 t7).1=x:=⟨_,rfl⟩
 obtain⟨t8,ht8⟩:∃ x,(getN 2 t7).2=x:=⟨_,rfl⟩
 obtain⟨qz,hqz⟩:∃ x,(getN 2 t8).1=x:=⟨_,rfl⟩
 obtain⟨t9,ht9⟩:∃ x,(getN 2 t8).2=x:=⟨_,rfl⟩
 obtain⟨qbo,hqbo⟩:∃ x,(getN 2 t9).1=x:=⟨_,rfl⟩
 obtain⟨t10,ht10⟩:∃ x,(getN 2 t9).2=x:=⟨_,rfl⟩
 obtain⟨qsc,hqsc⟩:∃ x,(getN 2 t10).1=x:=⟨_,rfl⟩
 obtain⟨t11,ht11⟩:∃ x,(getN 2 t10).2=x:=⟨_,rfl⟩
 obtain⟨qr,hqr⟩:∃ x,(getL ruG t11).1=x:=⟨_,rfl⟩
 obtain⟨t12,ht12⟩:∃ x,(getL ruG t11).2=x:=⟨_,rfl⟩
 obtain⟨qk,hqk⟩:∃ x,(getL getT t12).1=x:=⟨_,rfl⟩
 obtain⟨t13,ht13⟩:∃ x,(getL getT t12).2=x:=⟨_,rfl⟩
 obtain⟨ql,hql⟩:∃ x,(getT t13).1=x:=⟨_,rfl⟩
 obtain⟨t14,ht14⟩:∃ x,(getT t13).2=x:=⟨_,rfl⟩
 obtain⟨qm,hqm⟩:∃ x,(getN 2 t14).1=x:=⟨_,rfl⟩
 obtain⟨t15,ht15⟩:∃ x,(getN 2 t14).2=x:=⟨_,rfl⟩
 obtain⟨qn,hqn⟩:∃ x,(getN 2 t15).1=x:=⟨_,rfl⟩
 obtain⟨t16,ht16⟩:∃ x,(getN 2 t15).2=x:=⟨_,rfl⟩
 have HG:Hid (cfgG t0=(⟨qa,qf,qp,qwn,qpo,qv,⟨0,qx,qy,qz⟩,qbo,qsc,qr,qk,ql,qm,qn⟩,t16)):=Hd (by
  simp only[cfgG,hqa,ht1,hqf,ht2,hqp,ht3,hqwn,ht4,hqpo,ht5,hqv,ht6,hqx,ht7,hqy,ht8,hqz,ht9,hqbo,ht10,hqsc,ht11,hqr,ht12,hqk,ht13,hql,ht14,hqm,ht15,hqn,ht16])
 have HQQ:=Hd (And.intro (And.intro (And.intro hqx ht7) (And.intro hqy ht8)) (And.intro (And.intro hqz ht9) (And.intro (And.intro hqbo ht10) (And.intro hqsc ht11))));have HQ3:=Hd (And.intro (And.intro hqm ht15) (And.intro hqn ht16));have HNEW:=Hd (fun w1=>ZfM w1 S);have HB4:=Hd (fun w1 rb h=>Bb w1 rb S h hS);rw[ht0,hMB]at HB4;have HMB:=Hd hMB;have HT0:=Hd ht0;have H0:=Hd (fun w1 rb rc (h:RIn w1 rb S t0) (hc:w1.cell? ⟨rc,0,none⟩=some (.pointer (some ⟨rb,0,none⟩)))=>EM w1 rb rc S t0 h hS hc);rw[hqa,ht1]at H0;have H1:=Hd (fun w1 rb rc ob (h:RIn w1 rb S t1) (hc:w1.cell? ⟨rc,0,none⟩=some (.pointer (some ⟨rb,0,none⟩))) (nrc:rc≠rb) (hob:FnAt w1 ob 49 rc) (nob:ob≠rb)=>DR w1 rb rc ob S t1 h hS hc nrc hob nob);rw[hqf,ht2]at H1;have H2:=Hd (fun w1 rb rc ob (h:RIn w1 rb S t2) (hc:w1.cell? ⟨rc,0,none⟩=some (.pointer (some ⟨rb,0,none⟩))) (nrc:rc≠rb) (hob:FnAt w1 ob 49 rc) (nob:ob≠rb)=>DQ w1 rb rc ob S t2 h hS hc nrc hob nob);rw[hqp,ht3]at H2;have H3:=Hd (fun w1 rb rc ob (h:RIn w1 rb S t3) (hc:w1.cell? ⟨rc,0,none⟩=some (.pointer (some ⟨rb,0,none⟩))) (nrc:rc≠rb) (hob:FnAt w1 ob 49 rc) (nob:ob≠rb)=>Zbf w1 rb rc ob S t3 h hS hc nrc hob nob);rw[hqwn,ht4]at H3;have H4:=Hd (fun w1 rb rc ob (h:RIn w1 rb S t4) (hc:w1.cell? ⟨rc,0,none⟩=some (.pointer (some ⟨rb,0,none⟩))) (nrc:rc≠rb) (hob:FnAt w1 ob 49 rc) (nob:ob≠rb)=>Zbh w1 rb rc ob S t4 h hS hc nrc hob nob);rw[hqpo,ht5]at H4;have H5:=Hd (fun w1 rb rc ob tb (h:RIn w1 rb S t5) (hc:w1.cell? ⟨rc,0,none⟩=some (.pointer (some ⟨rb,0,none⟩))) (nrc:rc≠rb) (hob:FnAt w1 ob 49 rc) (nob:ob≠rb) (htb:FnAt w1 tb 51 rc) (ntb:tb≠rb)=>Zbg w1 rb rc ob tb S t5 h hS hc nrc hob nob htb ntb);rw[hqv,ht6]at H5;have H11:=Hd (fun w1 rb rc ob xb (h:RIn w1 rb S t11) (hc:w1.cell? ⟨rc,0,none⟩=some (.pointer (some ⟨rb,0,none⟩))) (nrc:rc≠rb) (hob:FnAt w1 ob 49 rc) (nob:ob≠rb) (hxb:FnAt w1 xb 52 rc) (nxb:xb≠rb)=>Zdh w1 rb rc ob xb S t11 h hS hc nrc hob nob hxb nxb);rw[hqr,ht12]at H11;have H12:=Hd (fun w1 rb rc  (h:RIn w1 rb S t12) (hc:w1.cell? ⟨rc,0,none⟩=some (.pointer (some ⟨rb,0,none⟩))) (nrc:rc≠rb)  => Zbi w1 rb rc  S t12 h hS hc nrc );rw[hqk,ht13]at H12;have H13:=Hd (fun w1 rb rc (h:RIn w1 rb S t13) (hc:w1.cell? ⟨rc,0,none⟩=some (.pointer (some ⟨rb,0,none⟩)))=>Zcy w1 rb rc S t13 h hS hc);rw[hql,ht14]at H13
 obtain⟨PT,hPT⟩:∃ PT,Df S w=PT:=⟨_,rfl⟩
 rw[hPT];have HPT:=Hd hPT;clear hPT hqa ht1 hqf ht2 hqp ht3 hqwn ht4 hqpo ht5 hqv ht6 hqx ht7 hqy ht8 hqz ht9 hqbo ht10 hqsc ht11 hqr ht12 hqk ht13 hql ht14 hqm ht15 hqn ht16 ht0 hMB
 obtain⟨ZC,hZC⟩:∃ ZC:Array Value,#[.int .i64 0,.slice none 0 0,.slice none 0 0,.slice none 0 0,.slice none 0 0,.slice none 0 0,.int .i64 0,.int .i64 0,.int .i64 0,.int .i64 0,.int .i64 0,.int .i64 0,.slice none 0 0,.slice none 0 0,.string ⟨#[]⟩,.int .i64 0,.int .i64 0]=ZC:=⟨_,rfl⟩
 have HZC:=Hd hZC
 go_enter Tryz.func17,Tryz.ntmps17
 go_upto_region 5 with(first
  |(go_at_call 48;(with_reducible refine(HNEW.out _).mono ?_);rintro e w1 ⟨rb,rfl,hrb,hrd,hl1⟩)
  |fail)
 have hwl:w.heap.size<rb:=by simp at hrb;omega
 have hrl:rb<w1.heap.size:=Za hrd;have hgz:w1.heap[w.heap.size]?=some (.cells ZC 32 (0,0)):=Later.block hl1 (Ze w _);have hlw:Later w w1:=((Later.refl w).alloc _).trans hl1
 obtain⟨rc,hrc⟩:∃ rc,w1.heap.size=rc:=⟨_,rfl⟩
 obtain⟨rp,hrp⟩:∃ rp,w.heap.size=rp:=⟨_,rfl⟩
 rw[hrc,hrp]
 obtain⟨w5,hw5⟩:∃ w5,(((w1.alloc (.cells #[.pointer (some ⟨rb,0,none⟩)] 89)).alloc (.cells #[.func (.func 49) #[] #[.pointer (some ⟨rc,0,none⟩)]] 63)).alloc (.cells #[.func (.func 51) #[] #[.pointer (some ⟨rc,0,none⟩)]] 63)).alloc (.cells #[.func (.func 52) #[] #[.pointer (some ⟨rc,0,none⟩)]] 93)=w5:=⟨_,rfl⟩
 have hl5:Later w1 w5:=by rw[←hw5];exact(((Later.refl w1).alloc _).alloc _).alloc _|>.alloc _
 have b0:w5.heap[rc]?=some (.cells #[.pointer (some ⟨rb,0,none⟩)] 89 (0,0)):=by rw[←hw5];exact Zd (Zd (Zd (Zt hrc) _) _) _
 have b1:w5.heap[rc+1]?=some (.cells #[.func (.func 49) #[] #[.pointer (some ⟨rc,0,none⟩)]] 63 (0,0)):=by rw[←hw5];exact Zd (Zd (Zt (by simp;omega)) _) _
 have b2:w5.heap[rc+1+1]?=some (.cells #[.func (.func 51) #[] #[.pointer (some ⟨rc,0,none⟩)]] 63 (0,0)):=by rw[←hw5];exact Zd (Zt (by simp;omega)) _
 have b3:w5.heap[rc+1+1+1]?=some (.cells #[.func (.func 52) #[] #[.pointer (some ⟨rc,0,none⟩)]] 93 (0,0)):=by rw[←hw5];exact Zt (by simp;omega)
 rw[hw5];have hrd5:=hrd.later hl5;have hgz5:=hl5.block hgz;rw[hrp]at hgz5;have hlw5:Later w w5:=hlw.trans hl5;have hw5l:rc+1+1+1<w5.heap.size:=Za b3;clear hw5 hrd hl1 hl5 hgz hlw hrb hZC;have k0:=Zb b0 0
 go_upto_region 6 with(first
  |(go_at_call 54;(with_reducible refine(HB4.out _ _ hrd5).mono ?_);rintro e w6 ⟨rfl,hr6,ho6⟩)
  |fail)
 have c0:=(ho6.block rc (Za b0) (show ¬IsPb rb rc from fun e=>by have:rc=rb:=e;omega)).trans b0;have c1:=(ho6.block _ (Za b1) (show ¬IsPb rb _ from fun e=>by have:rc+1=rb:=e;omega)).trans b1;have c2:=(ho6.block _ (Za b2) (show ¬IsPb rb _ from fun e=>by have:rc+1+1=rb:=e;omega)).trans b2;have c3:=(ho6.block _ (Za b3) (show ¬IsPb rb _ from fun e=>by have:rc+1+1+1=rb:=e;omega)).trans b3;have gz6:=(ho6.block rp (Za hgz5) (show ¬IsPb rb rp from fun e=>by have:rp=rb:=e;omega)).trans hgz5;have hl6:Later w w6:=Below.trans hlw5 (Only.below ho6 hlw5.size (fun k hk=>by have:k=rb:=hk;omega));have hs6:=ho6.size;clear b0 b1 b2 b3 k0 hgz5 ho6 hrd5 hlw5;have k0:w6.cell? ⟨rc,0,none⟩=some (.pointer (some ⟨rb,0,none⟩)):=Zb c0 0;have k1:=Zb c1 0
 obtain⟨rt,hrt⟩:∃ rt,(MB.toList==[67,83,84,49])=rt:=⟨_,rfl⟩
 rw[hrt];have HRT:=Hd hrt;clear hrt
 go_upto_region 7 with(first
  |(go_at_call 49;(with_reducible refine(H0.out _ _ _ hr6 k0).mono ?_);rintro e w7 ⟨rfl,hr7,ho7⟩)
  |fail)
 obtain⟨cb,hcb⟩:∃ cb,w7.heap.size=cb:=⟨_,rfl⟩
 rw[hcb]
 obtain⟨w8,hw8⟩:∃ w8,w7.alloc (.cells #[.int .i64 qa,.slice none 0 0,.slice none 0 0,.slice none 0 0,.slice none 0 0,.slice none 0 0,.int .i64 0,.int .i64 0,.int .i64 0,.int .i64 0,.int .i64 0,.int .i64 0,.slice none 0 0,.slice none 0 0,.string ⟨#[]⟩,.int .i64 0,.int .i64 0] 32)=w8:=⟨_,rfl⟩
 have hl8:Later w7 w8:=by rw[←hw8];exact(Later.refl w7).alloc _
 have hb8:w8.heap[cb]?=some (.cells #[.int .i64 qa,.slice none 0 0,.slice none 0 0,.slice none 0 0,.slice none 0 0,.slice none 0 0,.int .i64 0,.int .i64 0,.int .i64 0,.int .i64 0,.int .i64 0,.int .i64 0,.slice none 0 0,.slice none 0 0,.string ⟨#[]⟩,.int .i64 0,.int .i64 0] 32 (0,0)):=by rw[←hw8];exact Zt hcb
 rw[hw8];have d0:=hl8.block ((ho7.block rc (Za c0) (show ¬IsPb rb rc from fun e=>by have:rc=rb:=e;omega)).trans c0);have d1:=hl8.block ((ho7.block _ (Za c1) (show ¬IsPb rb _ from fun e=>by have:rc+1=rb:=e;omega)).trans c1);have d2:=hl8.block ((ho7.block _ (Za c2) (show ¬IsPb rb _ from fun e=>by have:rc+1+1=rb:=e;omega)).trans c2);have d3:=hl8.block ((ho7.block _ (Za c3) (show ¬IsPb rb _ from fun e=>by have:rc+1+1+1=rb:=e;omega)).trans c3);have gz8:=hl8.block ((ho7.block rp (Za gz6) (show ¬IsPb rb rp from fun e=>by have:rp=rb:=e;omega)).trans gz6);have hlw8:Later w w8:=(Below.trans hl6 (Only.below ho7 hl6.size (fun k hk=>by have:k=rb:=hk;omega))).trans (Below.mono hl8 (by have:=ho7.size;have:=hl6.size;omega));have hr8:=hr7.later hl8;have hcl:rc+1+1+1<cb:=by have:=ho7.size;omega
 have hcl8:=Za hb8;have HC:=Hd (fun(w':World) (h1:OnlyT rb cb rp w8 w')=>show w'.cell? ⟨rc,0,none⟩=some (.pointer (some ⟨rb,0,none⟩)) from Zb ((h1.block rc (Za d0) (show ¬Two rb cb rp rc from by unfold Two;omega)).trans d0) 0);have HF1:=Hd (fun(w':World) (h1:OnlyT rb cb rp w8 w')=>show FnAt w' (rc+1) 49 rc from Zb ((h1.block _ (Za d1) (show ¬Two rb cb rp _ from by unfold Two;omega)).trans d1) 0);have HF2:=Hd (fun(w':World) (h1:OnlyT rb cb rp w8 w')=>show FnAt w' (rc+1+1) 51 rc from Zb ((h1.block _ (Za d2) (show ¬Two rb cb rp _ from by unfold Two;omega)).trans d2) 0);have HF3:=Hd (fun(w':World) (h1:OnlyT rb cb rp w8 w')=>show FnAt w' (rc+1+1+1) 52 rc from Zb ((h1.block _ (Za d3) (show ¬Two rb cb rp _ from by unfold Two;omega)).trans d3) 0);have HLW:=Hd (fun(w':World) (h1:OnlyT rb cb rp w8 w')=>show Later w w' from Below.trans hlw8 (Only.below h1 hlw8.size (fun k hk=>by rcases hk with hk|hk<;>omega)));have HGZ:=Hd (fun(w':World) (h1:OnlyT rb cb rp w8 w')=>(h1.block rp (Za gz8) (show ¬Two rb cb rp rp from by unfold Two;omega)).trans gz8);have hrw:w.heap.size≤rp:=by omega
 have hrp8:=Za gz8;clear hw8 hl8 d0 d1 d2 d3 gz8 hlw8 hr7 ho7 c0 c1 c2 c3 gz6 hl6 hs6 k0 k1 hr6 hcb hw5l;have hT0:OnlyT rb cb rp w8 w8:=Only.refl _ _
 have hTT:OnlyT rb cb rp w8 w8:=(by repeat(first|assumption|exact Only.refl _ _|refine Only.drew ?_|refine OnlyT.setC ?_ _ _|refine OnlyT.thenP ?_ (by assumption)|refine OnlyT.then ?_ (by assumption)))
 have k0:=HC.out _ hTT;have k1:=HF1.out _ hTT;have k2:=HF2.out _ hTT;have k3:=HF3.out _ hTT;unfold FnAt at k1 k2 k3
 go_upto_region 8 with(first
  |(go_at_call 55;(with_reducible refine(H1.out _ _ _ (rc+1) hr8 k0 (by omega) (HF1.out _ hTT) (by omega)).mono ?_);rintro e w9 ⟨v1,rfl,hrow,hrx,hox⟩;obtain⟨a1,p1,rfl⟩:=hrow.val;have hbx:=(hox.block cb (Za hb8) (show ¬IsPb rb cb from fun e=>by have:cb=rb:=e;omega)).trans hb8;have z1:=Zb hbx 1;have z2:=Zc hbx 1;have z3:=Za hbx)
  |fail)
 obtain⟨w10,hwm⟩:∃ x,(w9.setCell ⟨cb,1,none⟩ (.slice a1 qf.length p1))=x:=⟨_,rfl⟩
 rw[hwm];have hcr:¬ cb=rb:=by omega
 have hb10:w10.heap[cb]?=some (.cells #[.int .i64 qa,.slice a1 qf.length p1,.slice none 0 0,.slice none 0 0,.slice none 0 0,.slice none 0 0,.int .i64 0,.int .i64 0,.int .i64 0,.int .i64 0,.int .i64 0,.int .i64 0,.slice none 0 0,.slice none 0 0,.string ⟨#[]⟩,.int .i64 0,.int .i64 0] 32 (0,0)):=by rw[←hwm];exact(Zf hbx 1 _).trans rfl
 have hr10:RIn w10 rb S t2:=by rw[←hwm];exact(RIn.setOther hrx hcr 1 _)
 have hT1:OnlyT rb cb rp w8 w10:=by rw[←hwm];exact OnlyT.setC (OnlyT.of hox) _ _
 have hwsz:w8.heap.size≤w10.heap.size:=hT1.size;have hcW:cb<w8.heap.size:=Za hb8;have HROW1:=Hd (fun(w':World) (h1:OnlyU rb cb rp w10 w')=>show RowAt w' 2 (.slice a1 qf.length p1) (qf.map Yl) from((hrow.only (r:=Two rb cb rp) (by rw[←hwm];exact OnlyT.setC (Only.refl _ _) _ _) (fun b hb _ hk=>by rcases hk with hk|hk<;>omega)).only h1 (fun b hb _ hk=>by rcases hk with hk|hk|hk<;>omega)).row);clear hwm hTT k0 k1 k2 k3 hrow hrx hox hbx z1 z2 z3 hwsz hcW hb8 hr8
 have hTT:OnlyT rb cb rp w8 w10:=(by repeat(first|assumption|exact Only.refl _ _|refine Only.drew ?_|refine OnlyT.setC ?_ _ _|refine OnlyT.thenP ?_ (by assumption)|refine OnlyT.then ?_ (by assumption)))
 have k0:=HC.out _ hTT;have k1:=HF1.out _ hTT;have k2:=HF2.out _ hTT;have k3:=HF3.out _ hTT;unfold FnAt at k1 k2 k3
 go_upto_region 9 with(first
  |(go_at_call 57;(with_reducible refine(H2.out _ _ _ (rc+1) hr10 k0 (by omega) (HF1.out _ hTT) (by omega)).mono ?_);rintro e w11 ⟨v2,rfl,hrow,hrx,hox⟩;obtain⟨a2,p2,rfl⟩:=hrow.val;have hbx:=(hox.block cb (Za hb10) (show ¬IsPb rb cb from fun e=>by have:cb=rb:=e;omega)).trans hb10;have z1:=Zb hbx 2;have z2:=Zc hbx 2;have z3:=Za hbx)
  |fail)
 obtain⟨w12,hwm⟩:∃ x,(w11.setCell ⟨cb,2,none⟩ (.slice a2 qp.length p2))=x:=⟨_,rfl⟩
 rw[hwm];have hcr:¬ cb=rb:=by omega
 have hb12:w12.heap[cb]?=some (.cells #[.int .i64 qa,.slice a1 qf.length p1,.slice a2 qp.length p2,.slice none 0 0,.slice none 0 0,.slice none 0 0,.int .i64 0,.int .i64 0,.int .i64 0,.int .i64 0,.int .i64 0,.int .i64 0,.slice none 0 0,.slice none 0 0,.string ⟨#[]⟩,.int .i64 0,.int .i64 0] 32 (0,0)):=by rw[←hwm];exact(Zf hbx 2 _).trans rfl
 have hr12:RIn w12 rb S t3:=by rw[←hwm];exact(RIn.setOther hrx hcr 2 _)
 have hT2:OnlyT rb cb rp w10 w12:=by rw[←hwm];exact OnlyT.setC (OnlyT.of hox) _ _
 have hwsz:w10.heap.size≤w12.heap.size:=hT2.size;have hcW:cb<w10.heap.size:=Za hb10;have HROW2:=Hd (fun(w':World) (h1:OnlyU rb cb rp w12 w')=>show RowAt w' 2 (.slice a2 qp.length p2) (qp.map X9) from((hrow.only (r:=Two rb cb rp) (by rw[←hwm];exact OnlyT.setC (Only.refl _ _) _ _) (fun b hb _ hk=>by rcases hk with hk|hk<;>omega)).only h1 (fun b hb _ hk=>by rcases hk with hk|hk|hk<;>omega)).row);clear hwm hTT k0 k1 k2 k3 hrow hrx hox hbx z1 z2 z3 hwsz hcW hb10 hr10
 have hTT:OnlyT rb cb rp w8 w12:=(by repeat(first|assumption|exact Only.refl _ _|refine Only.drew ?_|refine OnlyT.setC ?_ _ _|refine OnlyT.thenP ?_ (by assumption)|refine OnlyT.then ?_ (by assumption)))
 have k0:=HC.out _ hTT;have k1:=HF1.out _ hTT;have k2:=HF2.out _ hTT;have k3:=HF3.out _ hTT;unfold FnAt at k1 k2 k3
 go_upto_region 10 with(first
  |(go_at_call 59;(with_reducible refine(H3.out _ _ _ (rc+1) hr12 k0 (by omega) (HF1.out _ hTT) (by omega)).mono ?_);rintro e w13 ⟨v3,rfl,hrow,hrx,hox⟩;obtain⟨a3,p3,rfl⟩:=hrow.val;have hbx:=(hox.block cb (Za hb12) (show ¬IsPb rb cb from fun e=>by have:cb=rb:=e;omega)).trans hb12;have z1:=Zb hbx 3;have z2:=Zc hbx 3;have z3:=Za hbx)
  |fail)
 obtain⟨w14,hwm⟩:∃ x,(w13.setCell ⟨cb,3,none⟩ (.slice a3 qwn.length p3))=x:=⟨_,rfl⟩
 rw[hwm];have hcr:¬ cb=rb:=by omega
 have hb14:w14.heap[cb]?=some (.cells #[.int .i64 qa,.slice a1 qf.length p1,.slice a2 qp.length p2,.slice a3 qwn.length p3,.slice none 0 0,.slice none 0 0,.int .i64 0,.int .i64 0,.int .i64 0,.int .i64 0,.int .i64 0,.int .i64 0,.slice none 0 0,.slice none 0 0,.string ⟨#[]⟩,.int .i64 0,.int .i64 0] 32 (0,0)):=by rw[←hwm];exact(Zf hbx 3 _).trans rfl
 have hr14:RIn w14 rb S t4:=by rw[←hwm];exact(RIn.setOther hrx hcr 3 _)
 have hT3:OnlyT rb cb rp w12 w14:=by rw[←hwm];exact OnlyT.setC (OnlyT.of hox) _ _
 have hwsz:w12.heap.size≤w14.heap.size:=hT3.size;have hcW:cb<w12.heap.size:=Za hb12;have HROW3:=Hd (fun(w':World) (h1:OnlyU rb cb rp w14 w')=>show RowAt w' 3 (.slice a3 qwn.length p3) (qwn.map winC) from((hrow.only (r:=Two rb cb rp) (by rw[←hwm];exact OnlyT.setC (Only.refl _ _) _ _) (fun b hb _ hk=>by rcases hk with hk|hk<;>omega)).only h1 (fun b hb _ hk=>by rcases hk with hk|hk|hk<;>omega)).row);clear hwm hTT k0 k1 k2 k3 hrow hrx hox hbx z1 z2 z3 hwsz hcW hb12 hr12
 have hTT:OnlyT rb cb rp w8 w14:=(by repeat(first|assumption|exact Only.refl _ _|refine Only.drew ?_|refine OnlyT.setC ?_ _ _|refine OnlyT.thenP ?_ (by assumption)|refine OnlyT.then ?_ (by assumption)))
 have k0:=HC.out _ hTT;have k1:=HF1.out _ hTT;have k2:=HF2.out _ hTT;have k3:=HF3.out _ hTT;unfold FnAt at k1 k2 k3
 go_upto_region 11 with(first
  |(go_at_call 61;(with_reducible refine(H4.out _ _ _ (rc+1) hr14 k0 (by omega) (HF1.out _ hTT) (by omega)).mono ?_);rintro e w15 ⟨v4,rfl,hrow,hrx,hox⟩;obtain⟨a4,p4,rfl⟩:=hrow.val;have hbx:=(hox.block cb (Za hb14) (show ¬IsPb rb cb from fun e=>by have:cb=rb:=e;omega)).trans hb14;have z1:=Zb hbx 4;have z2:=Zc hbx 4;have z3:=Za hbx)
  |fail)
 obtain⟨w16,hwm⟩:∃ x,(w15.setCell ⟨cb,4,none⟩ (.slice a4 qpo.length p4))=x:=⟨_,rfl⟩
 rw[hwm];have hcr:¬ cb=rb:=by omega
 have hb16:w16.heap[cb]?=some (.cells #[.int .i64 qa,.slice a1 qf.length p1,.slice a2 qp.length p2,.slice a3 qwn.length p3,.slice a4 qpo.length p4,.slice none 0 0,.int .i64 0,.int .i64 0,.int .i64 0,.int .i64 0,.int .i64 0,.int .i64 0,.slice none 0 0,.slice none 0 0,.string ⟨#[]⟩,.int .i64 0,.int .i64 0] 32 (0,0)):=by rw[←hwm];exact(Zf hbx 4 _).trans rfl
 have hr16:RIn w16 rb S t5:=by rw[←hwm];exact(RIn.setOther hrx hcr 4 _)
 have hT4:OnlyT rb cb rp w14 w16:=by rw[←hwm];exact OnlyT.setC (OnlyT.of hox) _ _
 have hwsz:w14.heap.size≤w16.heap.size:=hT4.size;have hcW:cb<w14.heap.size:=Za hb14;have HROW4:=Hd (fun(w':World) (h1:OnlyU rb cb rp w16 w')=>show RowAt w' 5 (.slice a4 qpo.length p4) (qpo.map porC) from((hrow.only (r:=Two rb cb rp) (by rw[←hwm];exact OnlyT.setC (Only.refl _ _) _ _) (fun b hb _ hk=>by rcases hk with hk|hk<;>omega)).only h1 (fun b hb _ hk=>by rcases hk with hk|hk|hk<;>omega)).row);clear hwm hTT k0 k1 k2 k3 hrow hrx hox hbx z1 z2 z3 hwsz hcW hb14 hr14
 have hTT:OnlyT rb cb rp w8 w16:=(by repeat(first|assumption|exact Only.refl _ _|refine Only.drew ?_|refine OnlyT.setC ?_ _ _|refine OnlyT.thenP ?_ (by assumption)|refine OnlyT.then ?_ (by assumption)))
 have k0:=HC.out _ hTT;have k1:=HF1.out _ hTT;have k2:=HF2.out _ hTT;have k3:=HF3.out _ hTT;unfold FnAt at k1 k2 k3
 go_upto_region 12 with(first
  |(go_at_call 63;(with_reducible refine(H5.out _ _ _ (rc+1) (rc+1+1) hr16 k0 (by omega) (HF1.out _ hTT) (by omega) (HF2.out _ hTT) (by omega)).mono ?_);rintro e w17 ⟨v5,rfl,hrow,hrx,hox⟩;obtain⟨a5,p5,rfl⟩:=hrow.val;have hbx:=(hox.block cb (Za hb16) (show ¬IsPb rb cb from fun e=>by have:cb=rb:=e;omega)).trans hb16;have z1:=Zb hbx 5;have z2:=Zc hbx 5;have z3:=Za hbx)
  |fail)
 obtain⟨w18,hwm⟩:∃ x,(w17.setCell ⟨cb,5,none⟩ (.slice a5 qv.length p5))=x:=⟨_,rfl⟩
 rw[hwm];have hcr:¬ cb=rb:=by omega
 have hb18:w18.heap[cb]?=some (.cells #[.int .i64 qa,.slice a1 qf.length p1,.slice a2 qp.length p2,.slice a3 qwn.length p3,.slice a4 qpo.length p4,.slice a5 qv.length p5,.int .i64 0,.int .i64 0,.int .i64 0,.int .i64 0,.int .i64 0,.int .i64 0,.slice none 0 0,.slice none 0 0,.string ⟨#[]⟩,.int .i64 0,.int .i64 0] 32 (0,0)):=by rw[←hwm];exact(Zf hbx 5 _).trans rfl
 have hr18:RIn w18 rb S t6:=by rw[←hwm];exact(RIn.setOther hrx hcr 5 _)
 have hT5:OnlyT rb cb rp w16 w18:=by rw[←hwm];exact OnlyT.setC (OnlyT.of hox) _ _
 have hwsz:w16.heap.size≤w18.heap.size:=hT5.size;have hcW:cb<w16.heap.size:=Za hb16;have HROW5:=Hd (fun(w':World) (h1:OnlyU rb cb rp w18 w')=>show RowAt w' 4 (.slice a5 qv.length p5) (qv.map volC) from((hrow.only (r:=Two rb cb rp) (by rw[←hwm];exact OnlyT.setC (Only.refl _ _) _ _) (fun b hb _ hk=>by rcases hk with hk|hk<;>omega)).only h1 (fun b hb _ hk=>by rcases hk with hk|hk|hk<;>omega)).row);clear hwm hTT k0 k1 k2 k3 hrow hrx hox hbx z1 z2 z3 hwsz hcW hb16 hr16
 have hTT:OnlyT rb cb rp w8 w18:=(by repeat(first|assumption|exact Only.refl _ _|refine Only.drew ?_|refine OnlyT.setC ?_ _ _|refine OnlyT.thenP ?_ (by assumption)|refine OnlyT.then ?_ (by assumption)))
 have hcr:¬ cb=rb:=by omega
 have HTW:=Hd (fun(w1:World) (s:RSt) (h1:OnlyT rb cb rp w8 w1) (h2:RIn w1 rb S s)=>show Calls Tryz.prog 51 #[.pointer (some ⟨rc,0,none⟩)] w1 (ZY rb S (.int .i64 (getN 2 s).1) (getN 2 s).2 w1) from By w1 rb rc S s h2 hS (HC.out w1 h1));have HBW:=Hd (fun(w':World) (h1:Zo rb w18 w')=>(h1.block cb (Za hb18) (show ¬IsPb rb cb from hcr)).trans hb18);have HTP:=Hd (fun(w':World) (h1:Zo rb w18 w')=>OnlyT.thenP hTT h1);have k2:=HF2.out _ hTT;unfold FnAt at k2;have hpp:Zo rb w18 w18:=Only.refl _ _;have hrd:=RIn.drewW hr18
 obtain⟨wo,hwo⟩:∃ wo:World,wo=w18:=⟨_,rfl⟩
 go_upto_region 12 with fail
 go_cut [] from 43 to 50 (fun wx=>wx.heap[cb]?=some (.cells #[.int .i64 qa,.slice a1 qf.length p1,.slice a2 qp.length p2,.slice a3 qwn.length p3,.slice a4 qpo.length p4,.slice a5 qv.length p5,.int .i64 0,.int .i64 (getN 2 t6).1,.int .i64 (getN 2 (getN 2 t6).2).1,.int .i64 (getN 2 (getN 2 (getN 2 t6).2).2).1,.int .i64 0,.int .i64 0,.slice none 0 0,.slice none 0 0,.string ⟨#[]⟩,.int .i64 0,.int .i64 0] 32 (0,0))∧RIn wx rb S (getN 2 (getN 2 (getN 2 t6).2).2).2∧OnlyT rb cb rp w18 wx)
 case first=>
  go_region_held3 (fun w'=>w'.cell? ⟨rc+1+1,0,none⟩=some (.func (.func 51) #[] #[.pointer (some ⟨rc,0,none⟩)]))
   (exact HF2.out _ (by repeat(first|assumption|exact Only.refl _ _|refine Only.drew ?_|refine OnlyT.setC ?_ _ _|refine OnlyT.thenP ?_ (by assumption)|refine OnlyT.then ?_ (by assumption))))
   (first
    |(go_at_call 51;(with_reducible refine(HTW.out _ _ (by repeat(first|assumption|exact Only.refl _ _|refine Only.drew ?_|refine OnlyT.setC ?_ _ _|refine OnlyT.thenP ?_ (by assumption)|refine OnlyT.then ?_ (by assumption))) (by assumption)).mono ?_);rintro e w2 ⟨rfl,hrx,hox⟩;have hrdx:=RIn.drewW hrx;have hox2:Zo rb w18 w2:=(by repeat(first|assumption|refine Only.drew ?_|refine Only.thenP ?_ (by assumption)));have hbx:=HBW.out w2 hox2;have z6:=Zb hbx 6;have y6:=Zc hbx 6;have z7:=Zb hbx 7;have y7:=Zc hbx 7;have z8:=Zb hbx 8;have y8:=Zc hbx 8;have z9:=Zb hbx 9;have y9:=Zc hbx 9;have hgl:=Za hbx;have HBX:=Hd hbx;clear hbx)
    |fail)
  all_goals
   go_wp2_with fail
   go_meet
   case rel=>
    have hbx:=HBX.out;exact⟨(Zf (Zf (Zf (Zf hbx 6 _) 7 _) 8 _) 9 _).trans rfl,(RIn.setOther (RIn.setOther (RIn.setOther (RIn.setOther hrx hcr 6 _) hcr 7 _) hcr 8 _) hcr 9 _),(by repeat(first|assumption|exact Only.refl _ _|refine Only.drew ?_|refine OnlyT.setC ?_ _ _|refine OnlyT.thenP ?_ (by assumption)|refine OnlyT.then ?_ (by assumption)))⟩
 case rest=>
  obtain⟨hbc,hrc',hTc⟩:=hcut
  obtain⟨w19,hwm⟩:∃ x,wc=x:=⟨_,rfl⟩
  rw[hwm]at hbc hrc' hTc ⊢;obtain⟨⟨⟨e1,e2⟩,e3,e4⟩,⟨e5,e6⟩,-⟩:=HQQ.out;simp only[e1,e2,e3,e4,e5,e6]at hrc' hbc;have hb19:w19.heap[cb]?=some (.cells #[.int .i64 qa,.slice a1 qf.length p1,.slice a2 qp.length p2,.slice a3 qwn.length p3,.slice a4 qpo.length p4,.slice a5 qv.length p5,.int .i64 0,.int .i64 qx,.int .i64 qy,.int .i64 qz,.int .i64 0,.int .i64 0,.slice none 0 0,.slice none 0 0,.string ⟨#[]⟩,.int .i64 0,.int .i64 0] 32 (0,0)):=hbc;have hr19:RIn w19 rb S t9:=hrc';have hT6:OnlyT rb cb rp w18 w19:=hTc;clear hwm hbc hrc' hTc hTT hcr HTW HBW HTP k2 hpp hrd hb18 hr18 e1 e2 e3 e4 e5 e6
  have hTT:OnlyT rb cb rp w8 w19:=(by repeat(first|assumption|exact Only.refl _ _|refine Only.drew ?_|refine OnlyT.setC ?_ _ _|refine OnlyT.thenP ?_ (by assumption)|refine OnlyT.then ?_ (by assumption)))
  have hcr:¬ cb=rb:=by omega
  have HTW:=Hd (fun(w1:World) (s:RSt) (h1:OnlyT rb cb rp w8 w1) (h2:RIn w1 rb S s)=>show Calls Tryz.prog 51 #[.pointer (some ⟨rc,0,none⟩)] w1 (ZY rb S (.int .i64 (getN 2 s).1) (getN 2 s).2 w1) from By w1 rb rc S s h2 hS (HC.out w1 h1));have HBW:=Hd (fun(w':World) (h1:Zo rb w19 w')=>(h1.block cb (Za hb19) (show ¬IsPb rb cb from hcr)).trans hb19);have HTP:=Hd (fun(w':World) (h1:Zo rb w19 w')=>OnlyT.thenP hTT h1);have k2:=HF2.out _ hTT;unfold FnAt at k2;have hpp:Zo rb w19 w19:=Only.refl _ _;have hrd:=RIn.drewW hr19
  obtain⟨wo,hwo⟩:∃ wo:World,wo=w19:=⟨_,rfl⟩
  go_upto_region 13 with fail
  go_cut [] from 51 to 56 (fun wx=>wx.heap[cb]?=some (.cells #[.int .i64 qa,.slice a1 qf.length p1,.slice a2 qp.length p2,.slice a3 qwn.length p3,.slice a4 qpo.length p4,.slice a5 qv.length p5,.int .i64 0,.int .i64 qx,.int .i64 qy,.int .i64 qz,.int .i64 (getN 2 t9).1,.int .i64 (getN 2 (getN 2 t9).2).1,.slice none 0 0,.slice none 0 0,.string ⟨#[]⟩,.int .i64 0,.int .i64 0] 32 (0,0))∧RIn wx rb S (getN 2 (getN 2 t9).2).2∧OnlyT rb cb rp w19 wx)
  case first=>
   go_region_held3 (fun w'=>w'.cell? ⟨rc+1+1,0,none⟩=some (.func (.func 51) #[] #[.pointer (some ⟨rc,0,none⟩)]))
    (exact HF2.out _ (by repeat(first|assumption|exact Only.refl _ _|refine Only.drew ?_|refine OnlyT.setC ?_ _ _|refine OnlyT.thenP ?_ (by assumption)|refine OnlyT.then ?_ (by assumption))))
    (first
     |(go_at_call 51;(with_reducible refine(HTW.out _ _ (by repeat(first|assumption|exact Only.refl _ _|refine Only.drew ?_|refine OnlyT.setC ?_ _ _|refine OnlyT.thenP ?_ (by assumption)|refine OnlyT.then ?_ (by assumption))) (by assumption)).mono ?_);rintro e w2 ⟨rfl,hrx,hox⟩;have hrdx:=RIn.drewW hrx;have hox2:Zo rb w19 w2:=(by repeat(first|assumption|refine Only.drew ?_|refine Only.thenP ?_ (by assumption)));have hbx:=HBW.out w2 hox2;have z10:=Zb hbx 10;have y10:=Zc hbx 10;have z11:=Zb hbx 11;have y11:=Zc hbx 11;have hgl:=Za hbx;have HBX:=Hd hbx;clear hbx)
     |fail)
   all_goals
    go_wp2_with fail
    go_meet
    case rel=>
     have hbx:=HBX.out;exact⟨(Zf (Zf hbx 10 _) 11 _).trans rfl,(RIn.setOther (RIn.setOther hrx hcr 10 _) hcr 11 _),(by repeat(first|assumption|exact Only.refl _ _|refine Only.drew ?_|refine OnlyT.setC ?_ _ _|refine OnlyT.thenP ?_ (by assumption)|refine OnlyT.then ?_ (by assumption)))⟩
  case rest=>
   obtain⟨hbc,hrc',hTc⟩:=hcut
   obtain⟨w20,hwm⟩:∃ x,wc=x:=⟨_,rfl⟩
   rw[hwm]at hbc hrc' hTc ⊢;obtain⟨-, -, ⟨e1,e2⟩,e3,e4⟩:=HQQ.out;simp only[e1,e2,e3,e4]at hrc' hbc;have hb20:w20.heap[cb]?=some (.cells #[.int .i64 qa,.slice a1 qf.length p1,.slice a2 qp.length p2,.slice a3 qwn.length p3,.slice a4 qpo.length p4,.slice a5 qv.length p5,.int .i64 0,.int .i64 qx,.int .i64 qy,.int .i64 qz,.int .i64 qbo,.int .i64 qsc,.slice none 0 0,.slice none 0 0,.string ⟨#[]⟩,.int .i64 0,.int .i64 0] 32 (0,0)):=hbc;have hr20:RIn w20 rb S t11:=hrc';have hT9:OnlyT rb cb rp w19 w20:=hTc;clear hwm hbc hrc' hTc hTT hcr HTW HBW HTP k2 hpp hrd hb19 hr19 e1 e2 e3 e4
   have hTT:OnlyT rb cb rp w8 w20:=(by repeat(first|assumption|exact Only.refl _ _|refine Only.drew ?_|refine OnlyT.setC ?_ _ _|refine OnlyT.thenP ?_ (by assumption)|refine OnlyT.then ?_ (by assumption)))
   have k0:=HC.out _ hTT;have k1:=HF1.out _ hTT;have k2:=HF2.out _ hTT;have k3:=HF3.out _ hTT;unfold FnAt at k1 k2 k3
   go_upto_region 15 with(first
    |(go_at_call 65;(with_reducible refine(H11.out _ _ _ (rc+1) (rc+1+1+1) hr20 k0 (by omega) (HF1.out _ hTT) (by omega) (HF3.out _ hTT) (by omega)).mono ?_);rintro e w21 ⟨v11,rfl,hrow,hrx,hox⟩;obtain⟨a11,p11,rfl⟩:=hrow.val;have hbx:=(hox.block cb (Za hb20) (show ¬IsPb rb cb from fun e=>by have:cb=rb:=e;omega)).trans hb20;have z1:=Zb hbx 12;have z2:=Zc hbx 12;have z3:=Za hbx)
    |fail)
   obtain⟨w22,hwm⟩:∃ x,(w21.setCell ⟨cb,12,none⟩ (.slice a11 qr.length p11))=x:=⟨_,rfl⟩
   rw[hwm];have hcr:¬ cb=rb:=by omega
   have hb22:w22.heap[cb]?=some (.cells #[.int .i64 qa,.slice a1 qf.length p1,.slice a2 qp.length p2,.slice a3 qwn.length p3,.slice a4 qpo.length p4,.slice a5 qv.length p5,.int .i64 0,.int .i64 qx,.int .i64 qy,.int .i64 qz,.int .i64 qbo,.int .i64 qsc,.slice a11 qr.length p11,.slice none 0 0,.string ⟨#[]⟩,.int .i64 0,.int .i64 0] 32 (0,0)):=by rw[←hwm];exact(Zf hbx 12 _).trans rfl
   have hr22:RIn w22 rb S t12:=by rw[←hwm];exact(RIn.setOther hrx hcr 12 _)
   have hT11:OnlyT rb cb rp w20 w22:=by rw[←hwm];exact OnlyT.setC (OnlyT.of hox) _ _
   have hwsz:w20.heap.size≤w22.heap.size:=hT11.size;have hcW:cb<w20.heap.size:=Za hb20;have HROW11:=Hd (fun(w':World) (h1:OnlyU rb cb rp w22 w')=>show RowAt w' 5 (.slice a11 qr.length p11) (qr.map ruC) from((hrow.only (r:=Two rb cb rp) (by rw[←hwm];exact OnlyT.setC (Only.refl _ _) _ _) (fun b hb _ hk=>by rcases hk with hk|hk<;>omega)).only h1 (fun b hb _ hk=>by rcases hk with hk|hk|hk<;>omega)).row);clear hwm hTT k0 k1 k2 k3 hrow hrx hox hbx z1 z2 z3 hwsz hcW hb20 hr20
   have hTT:OnlyT rb cb rp w8 w22:=(by repeat(first|assumption|exact Only.refl _ _|refine Only.drew ?_|refine OnlyT.setC ?_ _ _|refine OnlyT.thenP ?_ (by assumption)|refine OnlyT.then ?_ (by assumption)))
   have k0:=HC.out _ hTT;have k1:=HF1.out _ hTT;have k2:=HF2.out _ hTT;have k3:=HF3.out _ hTT;unfold FnAt at k1 k2 k3
   go_upto_region 16 with(first
    |(go_at_call 67;(with_reducible refine(H12.out _ _ _  hr22 k0 (by omega) ).mono ?_);rintro e w23 ⟨v12,rfl,hrow,hrx,hox⟩;obtain⟨a12,p12,rfl⟩:=hrow.val;have hbx:=(hox.block cb (Za hb22) (show ¬IsPb rb cb from fun e=>by have:cb=rb:=e;omega)).trans hb22;have z1:=Zb hbx 13;have z2:=Zc hbx 13;have z3:=Za hbx)
    |fail)
   obtain⟨w24,hwm⟩:∃ x,(w23.setCell ⟨cb,13,none⟩ (.slice a12 qk.length p12))=x:=⟨_,rfl⟩
   rw[hwm];have hcr:¬ cb=rb:=by omega
   have hb24:w24.heap[cb]?=some (.cells #[.int .i64 qa,.slice a1 qf.length p1,.slice a2 qp.length p2,.slice a3 qwn.length p3,.slice a4 qpo.length p4,.slice a5 qv.length p5,.int .i64 0,.int .i64 qx,.int .i64 qy,.int .i64 qz,.int .i64 qbo,.int .i64 qsc,.slice a11 qr.length p11,.slice a12 qk.length p12,.string ⟨#[]⟩,.int .i64 0,.int .i64 0] 32 (0,0)):=by rw[←hwm];exact(Zf hbx 13 _).trans rfl
   have hr24:RIn w24 rb S t13:=by rw[←hwm];exact(RIn.setOther hrx hcr 13 _)
   have hT12:OnlyT rb cb rp w22 w24:=by rw[←hwm];exact OnlyT.setC (OnlyT.of hox) _ _
   have hwsz:w22.heap.size≤w24.heap.size:=hT12.size;have hcW:cb<w22.heap.size:=Za hb22;have HROW12:=Hd (fun(w':World) (h1:OnlyU rb cb rp w24 w')=>show RowAt w' 1 (.slice a12 qk.length p12) (qk.map keyC) from((hrow.only (r:=Two rb cb rp) (by rw[←hwm];exact OnlyT.setC (Only.refl _ _) _ _) (fun b hb _ hk=>by rcases hk with hk|hk<;>omega)).only h1 (fun b hb _ hk=>by rcases hk with hk|hk|hk<;>omega)).row);clear hwm hTT k0 k1 k2 k3 hrow hrx hox hbx z1 z2 z3 hwsz hcW hb22 hr22
   have hTT:OnlyT rb cb rp w8 w24:=(by repeat(first|assumption|exact Only.refl _ _|refine Only.drew ?_|refine OnlyT.setC ?_ _ _|refine OnlyT.thenP ?_ (by assumption)|refine OnlyT.then ?_ (by assumption)))
   have k0:=HC.out _ hTT;have k3:=HF3.out _ hTT;unfold FnAt at k3
   go_upto_region 17 with(first
    |(go_at_call 52;(with_reducible refine(H13.out _ _ _ hr24 k0).mono ?_);rintro e w25 ⟨rfl,hrx,hox⟩;have hbx:=(hox.block cb (Za hb24) (show ¬IsPb rb cb from fun e=>by have:cb=rb:=e;omega)).trans hb24;have z1:=Zb hbx 14;have z2:=Zc hbx 14;have z3:=Za hbx)
    |fail)
   obtain⟨w26,hwm⟩:∃ x,(w25.setCell ⟨cb,14,none⟩ (.string ql))=x:=⟨_,rfl⟩
   rw[hwm];have hcr:¬ cb=rb:=by omega
   have hb26:w26.heap[cb]?=some (.cells #[.int .i64 qa,.slice a1 qf.length p1,.slice a2 qp.length p2,.slice a3 qwn.length p3,.slice a4 qpo.length p4,.slice a5 qv.length p5,.int .i64 0,.int .i64 qx,.int .i64 qy,.int .i64 qz,.int .i64 qbo,.int .i64 qsc,.slice a11 qr.length p11,.slice a12 qk.length p12,.string ql,.int .i64 0,.int .i64 0] 32 (0,0)):=by rw[←hwm];exact(Zf hbx 14 _).trans rfl
   have hr26:RIn w26 rb S t14:=by rw[←hwm];exact(RIn.setOther hrx hcr 14 _)
   have hT13:OnlyT rb cb rp w24 w26:=by rw[←hwm];exact OnlyT.setC (OnlyT.of hox) _ _
   clear hwm hTT k0 k3 hrx hox hbx z1 z2 z3 hb24 hr24
   have hTT:OnlyT rb cb rp w8 w26:=(by repeat(first|assumption|exact Only.refl _ _|refine Only.drew ?_|refine OnlyT.setC ?_ _ _|refine OnlyT.thenP ?_ (by assumption)|refine OnlyT.then ?_ (by assumption)))
   have hcr:¬ cb=rb:=by omega
   have HTW:=Hd (fun(w1:World) (s:RSt) (h1:OnlyT rb cb rp w8 w1) (h2:RIn w1 rb S s)=>show Calls Tryz.prog 51 #[.pointer (some ⟨rc,0,none⟩)] w1 (ZY rb S (.int .i64 (getN 2 s).1) (getN 2 s).2 w1) from By w1 rb rc S s h2 hS (HC.out w1 h1));have HBW:=Hd (fun(w':World) (h1:Zo rb w26 w')=>(h1.block cb (Za hb26) (show ¬IsPb rb cb from hcr)).trans hb26);have HTP:=Hd (fun(w':World) (h1:Zo rb w26 w')=>OnlyT.thenP hTT h1);have k2:=HF2.out _ hTT;unfold FnAt at k2;have hpp:Zo rb w26 w26:=Only.refl _ _;have hrd:=RIn.drewW hr26
   obtain⟨wo,hwo⟩:∃ wo:World,wo=w26:=⟨_,rfl⟩
   go_upto_region 17 with fail
   go_cut [] from 68 to 73 (fun wx=>wx.heap[cb]?=some (.cells #[.int .i64 qa,.slice a1 qf.length p1,.slice a2 qp.length p2,.slice a3 qwn.length p3,.slice a4 qpo.length p4,.slice a5 qv.length p5,.int .i64 0,.int .i64 qx,.int .i64 qy,.int .i64 qz,.int .i64 qbo,.int .i64 qsc,.slice a11 qr.length p11,.slice a12 qk.length p12,.string ql,.int .i64 (getN 2 t14).1,.int .i64 (getN 2 (getN 2 t14).2).1] 32 (0,0))∧RIn wx rb S (getN 2 (getN 2 t14).2).2∧OnlyT rb cb rp w26 wx)
   case first=>
    go_region_held3 (fun w'=>w'.cell? ⟨rc+1+1,0,none⟩=some (.func (.func 51) #[] #[.pointer (some ⟨rc,0,none⟩)]))
     (exact HF2.out _ (by repeat(first|assumption|exact Only.refl _ _|refine Only.drew ?_|refine OnlyT.setC ?_ _ _|refine OnlyT.thenP ?_ (by assumption)|refine OnlyT.then ?_ (by assumption))))
     (first
      |(go_at_call 51;(with_reducible refine(HTW.out _ _ (by repeat(first|assumption|exact Only.refl _ _|refine Only.drew ?_|refine OnlyT.setC ?_ _ _|refine OnlyT.thenP ?_ (by assumption)|refine OnlyT.then ?_ (by assumption))) (by assumption)).mono ?_);rintro e w2 ⟨rfl,hrx,hox⟩;have hrdx:=RIn.drewW hrx;have hox2:Zo rb w26 w2:=(by repeat(first|assumption|refine Only.drew ?_|refine Only.thenP ?_ (by assumption)));have hbx:=HBW.out w2 hox2;have z15:=Zb hbx 15;have y15:=Zc hbx 15;have z16:=Zb hbx 16;have y16:=Zc hbx 16;have hgl:=Za hbx;have HBX:=Hd hbx;clear hbx)
      |fail)
    all_goals
     go_wp2_with fail
     go_meet
     case rel=>
      have hbx:=HBX.out;exact⟨(Zf (Zf hbx 15 _) 16 _).trans rfl,(RIn.setOther (RIn.setOther hrx hcr 15 _) hcr 16 _),(by repeat(first|assumption|exact Only.refl _ _|refine Only.drew ?_|refine OnlyT.setC ?_ _ _|refine OnlyT.thenP ?_ (by assumption)|refine OnlyT.then ?_ (by assumption)))⟩
   case rest=>
    obtain⟨hbc,hrc',hTc⟩:=hcut
    obtain⟨w27,hwm⟩:∃ x,wc=x:=⟨_,rfl⟩
    rw[hwm]at hbc hrc' hTc ⊢;obtain⟨⟨e1,e2⟩,e3,e4⟩:=HQ3.out;simp only[e1,e2,e3,e4]at hrc' hbc;have hb27:w27.heap[cb]?=some (.cells #[.int .i64 qa,.slice a1 qf.length p1,.slice a2 qp.length p2,.slice a3 qwn.length p3,.slice a4 qpo.length p4,.slice a5 qv.length p5,.int .i64 0,.int .i64 qx,.int .i64 qy,.int .i64 qz,.int .i64 qbo,.int .i64 qsc,.slice a11 qr.length p11,.slice a12 qk.length p12,.string ql,.int .i64 qm,.int .i64 qn] 32 (0,0)):=hbc;have hr27:RIn w27 rb S t16:=hrc';have hT14:OnlyT rb cb rp w26 w27:=hTc;clear hwm hbc hrc' hTc hTT hcr HTW HBW HTP k2 hpp hrd hb26 hr26 e1 e2 e3 e4
    have hTT:OnlyT rb cb rp w8 w27:=(by repeat(first|assumption|exact Only.refl _ _|refine Only.drew ?_|refine OnlyT.setC ?_ _ _|refine OnlyT.thenP ?_ (by assumption)|refine OnlyT.then ?_ (by assumption)))
    have k0:=HC.out _ hTT;have HD:=Hd (Zd7 w27 rb S t16 hr27 hS)
    obtain⟨C,hC⟩:∃ C:Array Value,#[.int .i64 qa,.slice a1 qf.length p1,.slice a2 qp.length p2,.slice a3 qwn.length p3,.slice a4 qpo.length p4,.slice a5 qv.length p5,.int .i64 0,.int .i64 qx,.int .i64 qy,.int .i64 qz,.int .i64 qbo,.int .i64 qsc,.slice a11 qr.length p11,.slice a12 qk.length p12,.string ql,.int .i64 qm,.int .i64 qn]=C:=⟨_,rfl⟩
    rw[hC]at hb27;have HCC:=Hd hC;have HC17:=Hd (show(Tryz.prog.info? 32).map (·.size)=some C.size by rw[←hC];exact BV);have HZ17:=Hd (show(Tryz.prog.info? 32).map (·.size)=some ZC.size by rw[←HZC.out];exact BV);have HCZ:=Hd (show C.size=ZC.size by rw[←hC,←HZC.out];rfl);have HC1:=Hd (show C.all (·.oneCell')=true by rw[←hC];simp[Value.oneCell']);have HZ1:=Hd (show ZC.all (·.oneCell')=true by rw[←HZC.out];simp[Value.oneCell']);clear hC
    go_upto_region 19 with(first
     |(go_at_call 68;(with_reducible refine HD.out.mono ?_);rintro e wd ⟨q,m,rfl,hq,hod⟩)
     |fail)
    have hbd:=(hod.block cb (Za hb27) (show ¬IsPb rb cb from fun e=>by have:cb=rb:=e;omega)).trans hb27;have hTd:OnlyT rb cb rp w27 wd:=OnlyT.of hod;have hgz:=HGZ.out wd (OnlyT.then hTT hTd);have hLd:=HLW.out wd (OnlyT.then hTT hTd);have HQI:=Hd hq;have HBD:=Hd hbd;have HGD:=Hd hgz;clear hq hbd hgz hod k0 hb27 hr27;rcases(show(q != 0)=true∨((q != 0)=false∧rt=false)∨((q != 0)=false∧rt=true) by cases(q != 0)<;>cases rt<;>simp) with hqb|⟨hqb,rfl⟩|⟨hqb,rfl⟩
    ·have HN:=Hd (BG (c:=⟨qa,qf,qp,qwn,qpo,qv,⟨0,qx,qy,qz⟩,qbo,qsc,qr,qk,ql,qm,qn⟩) HMB.out HRT.out HT0.out HG.out (.inr (fun e=>by have:=HQI.out.2 e;rw[this]at hqb;simp at hqb)));have hzc:=HZC.out
     go_wp2_with (first
      |refine wpList_store_row rfl 32 (.tmp 2) (.tmp 85) rfl rp ZC rfl rfl 32 ZC HGD.out HZ17.out rfl HZ1.out ?_
      |fail)
     refine bodyPost_ret (VN rfl _ _ _ rp 32 ZC (0,0) _ rfl (setRow_heap _ _ _ _ _ _ HGD.out) Tryz.underlying32 HZ17.out) rfl ?_;rw[←HPT.out];refine⟨QK,?_,?_,?_⟩
     ·have e1:(if Ye S.data.toList=none then(110:Int) else 0)=110:=by rw[HN.out];rfl
      have e2:QK.toArray=ZC:=HZC.out;rw[e1,e2];clear e1 e2;refine tup2 ?_;rfl
     ·rw[HN.out];exact ZbK _
     ·exact Xo hLd (by omega) _
    ·have HN:=Hd (BG (c:=⟨qa,qf,qp,qwn,qpo,qv,⟨0,qx,qy,qz⟩,qbo,qsc,qr,qk,ql,qm,qn⟩) HMB.out HRT.out HT0.out HG.out (.inl rfl));have hzc:=HZC.out
     go_wp2_with (first
      |refine wpList_store_row rfl 32 (.tmp 2) (.tmp 85) rfl rp ZC rfl rfl 32 ZC HGD.out HZ17.out rfl HZ1.out ?_
      |fail)
     refine bodyPost_ret (VN rfl _ _ _ rp 32 ZC (0,0) _ rfl (setRow_heap _ _ _ _ _ _ HGD.out) Tryz.underlying32 HZ17.out) rfl ?_;rw[←HPT.out];refine⟨QK,?_,?_,?_⟩
     ·have e1:(if Ye S.data.toList=none then(110:Int) else 0)=110:=by rw[HN.out];rfl
      have e2:QK.toArray=ZC:=HZC.out;rw[e1,e2];clear e1 e2;refine tup2 ?_;rfl
     ·rw[HN.out];exact ZbK _
     ·exact Xo hLd (by omega) _
    ·have hq0:q=0:=by simpa using hqb
     have HG2:=HG.out;rw[HQI.out.1 hq0]at HG2;have HN:=Hd (ZcO HMB.out HRT.out HT0.out rfl HG2);clear HG2 hq0
     go_wp2_with (first
      |refine wpList_load_row rfl 32 (.tmp 9) rfl cb rfl 32 C (0,0) _ HBD.out Tryz.underlying32 rfl HC17.out ?_
      |refine wpList_store_row rfl 32 (.tmp 2) (.tmp 86) rfl rp C rfl rfl 32 ZC HGD.out HC17.out HCZ.out.symm HC1.out ?_
      |fail)
     refine bodyPost_ret (VN rfl _ _ _ rp 32 C (0,0) _ rfl (setRow_heap _ _ _ _ _ _ HGD.out) Tryz.underlying32 HC17.out) rfl ?_;rw[←HPT.out];refine⟨[.int .i64 qa,.slice a1 qf.length p1,.slice a2 qp.length p2,.slice a3 qwn.length p3,.slice a4 qpo.length p4,.slice a5 qv.length p5,.int .i64 0,.int .i64 qx,.int .i64 qy,.int .i64 qz,.int .i64 qbo,.int .i64 qsc,.slice a11 qr.length p11,.slice a12 qk.length p12,.string ql,.int .i64 qm,.int .i64 qn],?_,?_,?_⟩
     ·have e1:(if Ye S.data.toList=none then(110:Int) else 0)=0:=by rw[HN.out];rfl
      rw[e1,HCC.out];clear e1;refine tup2 ?_;rfl
     ·rw[HN.out];clear hTT hT0;exact⟨⟨_,_,_,_,_,_,_,rfl,HROW1.out _ (OnlyU.setR (OnlyT.u (by repeat(first|assumption|exact Only.refl _ _|refine OnlyT.then ?_ (by assumption)))) _),HROW2.out _ (OnlyU.setR (OnlyT.u (by repeat(first|assumption|exact Only.refl _ _|refine OnlyT.then ?_ (by assumption)))) _),HROW3.out _ (OnlyU.setR (OnlyT.u (by repeat(first|assumption|exact Only.refl _ _|refine OnlyT.then ?_ (by assumption)))) _),HROW4.out _ (OnlyU.setR (OnlyT.u (by repeat(first|assumption|exact Only.refl _ _|refine OnlyT.then ?_ (by assumption)))) _),HROW5.out _ (OnlyU.setR (OnlyT.u (by repeat(first|assumption|exact Only.refl _ _|refine OnlyT.then ?_ (by assumption)))) _),HROW11.out _ (OnlyU.setR (OnlyT.u (by repeat(first|assumption|exact Only.refl _ _|refine OnlyT.then ?_ (by assumption)))) _),HROW12.out _ (OnlyU.setR (OnlyT.u (by repeat(first|assumption|exact Only.refl _ _|refine OnlyT.then ?_ (by assumption)))) _)⟩⟩
     ·exact Xo hLd (by omega) _
end Go.Proofs.YtbchkjfnakabkaaGreatDoor
