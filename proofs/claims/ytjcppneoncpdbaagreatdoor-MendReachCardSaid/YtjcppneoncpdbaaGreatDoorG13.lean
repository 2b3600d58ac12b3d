import Derived.Deep.LoopGhost
import Derived.Test.YtjcppneoncpdbaaGreatDoorG12
set_option maxHeartbeats 32000000
set_option maxRecDepth 100000
open Go.Lib renaming hid->Aa
open Nat renaming le_refl->Ae,lt_of_not_le->Ada,add_assoc->Vu
open List renaming getLast?_eq_getElem?->Zv,getElem?_eq_getElem->Ag,length_append->AQ,all_eq_true->Em
namespace Go.Proofs.YtjcppneoncpdbaaGreatDoor
open Go.RowKit
theorem Tryz.uy:J4 Tryz.prog 62 91 (.agg #[.int .i64 0,.int .u64 0,.int .u64 0,.bool false,.string ⟨#[]⟩]) 5 48:=⟨Tryz.underlying62,by kernel_rfl,rfl⟩
def Abi(s:St)(first:UInt64)(w:World)(e:Ending)(w':World):Prop:=
 Below w.heap.size w w'/\match NM s first with
  | none=>e= .returned (.tuple #[.slice none 0 0,.int .i64 5])
  | some l=>Lm s l/\∃v,e= .returned (.tuple #[v,.int .i64 0])/\w'.ownsRow w.heap.size 91 5 v l.length (dS l)
def Ael(s:St)(first:UInt64)(w:World)(g:Nat)(v a:Value)(wr:World):Prop:=
 ∃(acc:List Lk)(at_:UInt64)(f:Nat),a= .int .u64 (at_.toNat:Int)/\S9 s f at_ acc=NM s first/\E5 acc<f/\E5 acc<=g/\Lm s acc/\wr.ownsRow w.heap.size 91 5 v acc.length (dS acc)/\Below w.heap.size w wr
theorem JZ(name:UInt64): -9223372036854775808<=Be name/\Be name<=9223372036854775807:=by
 have hlt:=name.toNat_lt;unfold Be;simp only [IntKind.wrap,IntKind.bits,IntKind.signed,Bool.true_and,decide_eq_true_eq,show(2:Int)^(64-1)=9223372036854775808 from rfl,show(2:Int)^64=18446744073709551616 from rfl];constructor<;>split<;>omega
theorem KX{w w':World}{base n k:Nat}{e:TypeId}{v:Value}{xs:List Value}(h:w.ownsRow base e k v n xs)(hb:Below w.heap.size w w'):w'.ownsRow base e k v n xs:=
 ED h (Kept.of_below (r:=none) hb) (by
  rcases h.2 with⟨h1,_⟩| ⟨g,cap,cur,h1,_⟩
  ·exact .inr (by subst h1;rfl)
  ·exact .inl (by subst h1;exact fun e=>nomatch e))
section
variable{w w':World}{d p L:Nat}{s:St}{F:Nat->Prop}
theorem af(h:Sys w d p L s F)(first:UInt64):Calls Tryz.prog 53 #[.pointer (some ⟨d,0,none⟩),.pointer (some ⟨p,0,none⟩),.int .u64 (first.toNat:Int)] w (Abi s first w):=by
 have HX:=Aa h;have HN:=Aa (UQ h);have HP:=Aa h.pos;clear h;go_enter Tryz.func53,Tryz.ntmps53
 go_wp2_with fail
 refine HN.out.mono ?_;rintro e w1⟨rfl,rfl⟩;clear HN
 go_wp2_with fail
 go_loopg [8,9](E5 [])(fun g v a wr=>Ael s first w g v a wr)
 case atStart=>exact⟨[],first,_,rfl,rfl,by decide,Ae _,Lm.nil s,World.ownsRow_nil _ _ _ _,Below.refl _ _⟩
 case round=>
  obtain⟨acc,at_,f,rfl,hgo,hf,hg,hinv,hown,hb⟩:=hrel;obtain⟨f,rfl⟩:∃f',f=f'+1:=⟨f-1,by omega⟩;rw [S9]at hgo;have HO:=Aa hown;have HB:=Aa hb;have HI:=Aa hinv;have hfew:=hinv.few;clear hown hb hinv;by_cases h0:at_.toNat=0
  ·rw [if_pos h0]at hgo;have t0:((at_.toNat:Int)!=0)=false:=by rw [h0];rfl
   have HG:=Aa hgo;clear hgo h0 hf hg
   go_wp2_with fail
   go_ret2;refine⟨HB.out,?_⟩;rw [<-HG.out];exact⟨HI.out,_,rfl,HO.out⟩
  ·rw [if_neg h0]at hgo;have t0:((at_.toNat:Int)!=0)=true:=by rw [bne_iff_ne];omega
   have ho:=JZ at_;have hwr:IntKind.i64.wrap (at_.toNat:Int)=Be at_:=rfl;obtain⟨off,hoff⟩:∃off,off=Be at_:=⟨_,rfl⟩;rw [<-hoff]at hwr ho hgo;have hXr:=HX.out.below HB.out;have SL:=Aa (show Calls Tryz.prog 103 #[.pointer (some ⟨p,0,none⟩),.int .i64 off] wr _ from by
    obtain⟨tb,hb,n,cT,cH,own,hr, -⟩:=hXr;exact XI hr.at off ho)
   clear hoff;by_cases hc:Dz s off=1
   ·rw [if_neg (by rw [hc];exact fun h=>h rfl)]at hgo;rw [hc]at SL;obtain⟨hL0,hL1,ok,hn⟩:=HP.out;obtain⟨ho0,ho1,hj,hjL⟩:=xy ok hn hL1 hc;obtain⟨j,hjd⟩:∃j,j=off.toNat/8:=⟨_,rfl⟩;rw [<-hjd]at hj hjL hgo;have HJ:=Aa hj;have HJd:=Aa hjd;have Akv:off.toNat/8=j:=hjd.symm;have HJe:=Aa Akv;have HC:=Aa hc;have pW:=Aa hgo;have HF:=Aa hf;have HGh:=Aa hg;have HR:=Aa (And.intro ho0 ho1);have Ahi:=Aa (fun(W:World)(hW:Below w.heap.size w W)=>dn (HX.out.below hW) j 8 hjL);rw [<-hj,show((8:Nat):Int)=8 from rfl]at Ahi;clear hj hjd Akv hc hgo hf hg hL0 hL1 ok hn ho0 ho1 hjL hXr
    go_wp2_with fail
    refine SL.out.mono ?_;rintro e w2⟨rfl,hd⟩;have HB2:=Aa (HB.out.trans (hd.below w.heap.size));have Akw:=hd.below wr.heap.size;have Ahj:=Aa Akw;clear SL hd Akw
    go_wp2_with fail
    refine(Ahi.out w2 HB2.out).mono ?_;rintro e w3⟨v3,rfl,ho3,hb3⟩;obtain⟨A3,c3,rfl,hc3,hr3⟩:=CP ho3;have HB3:=Aa (HB2.out.trans (hb3.mono HB2.out.size));have Ahk:=Aa (Ahj.out.trans (hb3.mono Ahj.out.size));have HDc:=Aa (xn (wordsAt s.ws j 8) A3 c3 w3 hc3 hr3);clear ho3 hr3 hb3 Ahi
    go_wp2_with fail
    refine HDc.out.mono ?_;rintro e w4⟨hb4,uz⟩;have HB4:=Aa (HB3.out.trans (hb4.mono HB3.out.size));have Akx:=Ahk.out.trans (hb4.mono Ahk.out.size);have Aem:=Aa Akx;clear hb4 HDc Akx Ahk Ahj HB3 HB2;cases hdc:Nj (wordsAt s.ws j 8)with
    | none=>
      have mV:=pW.out;rw [hdc]at uz mV;replace uz:e= .returned (.tuple #[.agg #[.int .u64 0,.int .u64 0,.bool false,.string ⟨#[]⟩],.bool false]):=uz;subst uz;have mV:Hid (none=NM s first):=Aa mV;clear hdc pW
      go_wp2_with fail
      go_quiet(fail)
      go_wp2_with fail
      go_ret2;refine⟨(HB4.out.alloc HB4.out.size _).trans ((Dr.one _ _).below _),?_⟩;rw [<-mV.out];rfl
    | some r=>
      have mV:=pW.out;rw [hdc]at uz mV;replace uz:e= .returned (.tuple #[.agg #[.int .u64 (r.stamp.toNat:Int),.int .u64 (r.next.toNat:Int),.bool r.gone,.string r.text],.bool true]):=uz;subst uz;have mV:=Aa mV;have HDc:=Aa hdc;clear hdc pW;obtain⟨W5,ZQ⟩:∃W5,W5=w4.alloc (.cells #[.int .u64 (r.stamp.toNat:Int),.int .u64 (r.next.toNat:Int),.bool r.gone,.string r.text] 89):=⟨_,rfl⟩;have B5:BI W5 w4.heap.size 89 [.int .u64 (r.stamp.toNat:Int),.int .u64 (r.next.toNat:Int),.bool r.gone,.string r.text]:=ZQ▸heap_alloc_new _ _;have hb5:Below w4.heap.size w4 W5:=ZQ▸(Below.refl _ _).alloc (Ae _) _;have jE:=HB4.out.trans (hb5.mono HB4.out.size);have Ahl:=Aem.out.trans (hb5.mono Aem.out.size);have HLt:Hid (∀g,u8.ownBlock=some g->g<wr.heap.size):=Aa (fun g hg=>(HO.out.lt g hg).2);have zo:=ED HO.out (Kept.of_below (r:=none) Ahl) (by
       rcases HO.out.2 with⟨h1,_⟩| ⟨g,cap,cur,h1,_⟩
       ·exact .inr (by subst h1;rfl)
       ·exact .inl (by subst h1;exact fun e=>nomatch e))
      obtain⟨A8,c8,rfl,hc8,hl8⟩:=dU zo;obtain⟨y0,y1,y2,y3,_,_,_,_⟩:=Ce B5;have Z7:=Aa zo;have Ou:=Aa jE;have Aky:=Aa Ahl;have zB:=Aa B5;have hs5:=jE.size;have HW5:=Aa ZQ;clear hb5 B5 jE Ahl zo HO ZQ;obtain⟨n,hn⟩:∃n,n=acc.length:=⟨_,rfl⟩;have HN2:=Aa hn;rw [<-hn]at Z7;rw [<-hn]at hfew HLt;rw [<-hn];by_cases hlt:E5 acc<=r.stamp.toNat
      ·have HG2:=mV.out
       dsimp only at HG2
       rw [if_pos hlt]at HG2;have HG2:=Aa HG2;have hacc:acc≠[]:=fun e=>by
        subst e;have:=r.stamp.toNat_lt;have h2:(18446744073709551616:Nat)<=r.stamp.toNat:=hlt;omega
       obtain⟨m,hm⟩:∃m,n=m+1:=⟨n-1,by have:acc.length≠0:=(fun e=>hacc (List.eq_nil_of_length_eq_zero e));omega⟩;obtain⟨b,Akz,rfl,hb8,q0,q1,q2,q3,q4⟩:=hl8.at m (by omega);have hL8:E5 acc=acc[m].rc.stamp.toNat:=by
        unfold E5;rw [Zv,Ag (by omega)];simp only [show acc.length-1=m by omega]
       rw [hL8]at hlt;subst hm;have h0m:decide ((0:Int)<(m:Int)+1)=true:=decide_eq_true (by omega);have h0n:decide (0<m+1)=true:=decide_eq_true (by omega);have hm1:IntKind.i64.wrap ((m:Int)+1-1)=(m:Int):=by rw [show(m:Int)+1-1=(m:Int)by omega];exact IntWalk.i64_in _ (by omega)
       have t5:decide ((acc[m].rc.stamp.toNat:Int)<=(r.stamp.toNat:Int))=true:=decide_eq_true (by omega);have t6:decide (acc[m].rc.stamp.toNat<=r.stamp.toNat)=true:=decide_eq_true hlt;generalize acc[m].rc.stamp=ls at*;clear hL8 hl8 hacc hn hlt q0 q2 q3 q4
       go_wp2_with fail
       rw [<-HW5.out]
       go_quiet(fail)
       go_wp2_with fail
       go_ret2;refine⟨Ou.out.trans ((Dr.one _ _).below _),?_⟩;rw [<-HG2.out];rfl
      ·have qx:Hid (r.stamp.toNat<E5 acc):=Aa (Ada hlt);have HG2:=mV.out
       dsimp only at HG2
       rw [if_neg hlt]at HG2;have HG2:=Aa HG2;have HI2:=Aa (HI.out.step HR.out HC.out (by rw [HJe.out];exact HDc.out) (Ada hlt));cases n with
       | zero=>
         clear hl8 hn
         go_wp2_with fail
         rw [<-HW5.out]
         go_quiet(fail)
         obtain⟨W6,Qh⟩:∃W6,W6=W5.drewN nq:=⟨_,rfl⟩;have hd6:Below W5.heap.size W5 W6:=by rw [Qh];exact(Dr.one _ _).below _
         have K6:=zB.out.below hd6 zB.out.lt;obtain⟨y0,y1,y2,y3,_,_,_,_⟩:=Ce K6;have dV:=Aa (KX Z7.out hd6);have hs6:W6.heap.size=W5.heap.size:=by rw [Qh];rfl
         have NH:=Aa (Ou.out.trans (hd6.mono Ou.out.size));have HK6:=Aa K6;have hbs:w.heap.size<=W6.heap.size:=NH.out.size;have HS6:=Aa hs6;rw [<-Qh];clear hd6 K6 Qh Z7 Ou zB Aky hs6 hlt
         go_wp2_with(at_builtin;refine DZ rfl (.tmp 61) (.tmp 65) 62 rfl Tryz.uy W6 w.heap.size (.slice A8 0 c8) 0 (dS acc) [.int .i64 off,.int .u64 (r.stamp.toNat:Int),.int .u64 (r.next.toNat:Int),.bool r.gone,.string r.text] rfl dV.out rfl W6.heap.size 1 rfl rfl rfl (by decide) (by intro u hu;simp at hu;rcases hu with rfl| rfl| rfl| rfl| rfl<;>rfl) (by omega) (by decide) hbs ?_;intro g7 c7 w7 hO7 hB7 hK7 hg7;have K7:BI w7 w4.heap.size 89 _:=(hK7.2 w4.heap.size HK6.out.lt (fun e=>by have:=HLt.out _ e.symm;have:=Aem.out.size;omega)).trans HK6.out;obtain⟨z0,z1,z2,z3,_,_,_,_⟩:=Ce K7)
         have HO7:=Aa hO7;have dI:=Aa (NH.out.trans hB7);clear hO7 hB7 hK7 hg7 K7 y0 y1 y2 y3
         go_wp2_with fail
         go_roundg(r.stamp.toNat)
         case measure=>have:=qx.out;have:=HGh.out;omega
         case rel=>exact⟨acc++[⟨off,r⟩],r.next,f,rfl,HG2.out,by rw [IG];have:=qx.out;have:=HF.out;show r.stamp.toNat<f;omega,by rw [IG];exact Ae _,HI2.out,by rw [jG,AQ,<-HN2.out];exact HO7.out,dI.out⟩
       | succ m=>
         obtain⟨b,Akz,rfl,hb8,q0,q1,q2,q3,q4⟩:=hl8.at m (by omega);have hL8:E5 acc=acc[m].rc.stamp.toNat:=by
          unfold E5;rw [Zv,Ag (by omega)];simp only [show acc.length-1=m by omega]
         have h0m:decide ((0:Int)<(m:Int)+1)=true:=decide_eq_true (by omega);have h0n:decide (0<m+1)=true:=decide_eq_true (by omega);have hm1:IntKind.i64.wrap ((m:Int)+1-1)=(m:Int):=by rw [show(m:Int)+1-1=(m:Int)by omega];exact IntWalk.i64_in _ (by omega)
         have t5:decide ((acc[m].rc.stamp.toNat:Int)<=(r.stamp.toNat:Int))=false:=decide_eq_false (by omega);have t6:decide (acc[m].rc.stamp.toNat<=r.stamp.toNat)=false:=decide_eq_false (by omega);generalize acc[m].rc.stamp=ls at*;clear hL8 hl8 hn q0 q2 q3 q4
         go_wp2_with fail
         rw [<-HW5.out]
         go_quiet(fail)
         obtain⟨W6,Qh⟩:∃W6,W6=W5.drewN nq:=⟨_,rfl⟩;have hd6:Below W5.heap.size W5 W6:=by rw [Qh];exact(Dr.one _ _).below _
         have K6:=zB.out.below hd6 zB.out.lt;obtain⟨y0,y1,y2,y3,_,_,_,_⟩:=Ce K6;have dV:=Aa (KX Z7.out hd6);have hs6:W6.heap.size=W5.heap.size:=by rw [Qh];rfl
         have NH:=Aa (Ou.out.trans (hd6.mono Ou.out.size));have HK6:=Aa K6;have hbs:w.heap.size<=W6.heap.size:=NH.out.size;have HS6:=Aa hs6;rw [<-Qh];clear hd6 K6 Qh Z7 Ou zB Aky hs6 hlt
         go_wp2_with(at_builtin;refine DZ rfl (.tmp 61) (.tmp 65) 62 rfl Tryz.uy W6 w.heap.size (.slice (some ⟨b,Akz,none⟩) (m+1) c8) (m+1) (dS acc) [.int .i64 off,.int .u64 (r.stamp.toNat:Int),.int .u64 (r.next.toNat:Int),.bool r.gone,.string r.text] rfl dV.out rfl W6.heap.size 1 rfl rfl rfl (by decide) (by intro u hu;simp at hu;rcases hu with rfl| rfl| rfl| rfl| rfl<;>rfl) (by omega) (by decide) hbs ?_;intro g7 c7 w7 hO7 hB7 hK7 hg7;have K7:BI w7 w4.heap.size 89 _:=(hK7.2 w4.heap.size HK6.out.lt (fun e=>by have:=HLt.out _ e.symm;have:=Aem.out.size;omega)).trans HK6.out;obtain⟨z0,z1,z2,z3,_,_,_,_⟩:=Ce K7)
         have HO7:=Aa hO7;have dI:=Aa (NH.out.trans hB7);clear hO7 hB7 hK7 hg7 K7 y0 y1 y2 y3
         go_wp2_with fail
         go_roundg(r.stamp.toNat)
         case measure=>have:=qx.out;have:=HGh.out;omega
         case rel=>exact⟨acc++[⟨off,r⟩],r.next,f,rfl,HG2.out,by rw [IG];have:=qx.out;have:=HF.out;show r.stamp.toNat<f;omega,by rw [IG];exact Ae _,HI2.out,by rw [jG,AQ,<-HN2.out];exact HO7.out,dI.out⟩
   ·rw [if_pos hc]at hgo;have HG:=Aa hgo;have t1:(((Dz s off:Nat):Int)!=1)=true:=by rw [bne_iff_ne];omega
    clear hgo hf hg
    go_wp2_with fail
    refine SL.out.mono ?_;rintro e w2⟨rfl,hd⟩;have HB2:=Aa (HB.out.trans (hd.below w.heap.size))
    go_wp2_with fail
    go_ret2;refine⟨HB2.out,?_⟩;rw [<-HG.out];rfl
end
def Yd(a b:ByteArray):Int:=if Op.bytesLess a.toList b.toList=true then-1 else if(a.toList==b.toList)=true then 0 else 1
theorem Ahm(a:ByteArray)(w:World):Calls Tryz.prog 201 #[.string a] w fun e w'=>e= .returned (.bool false)/\w=w':=by
 go_enter Tryz.func201,Tryz.ntmps201;go_wp2;go_ret;exact⟨by simp,rfl⟩
theorem Ahn(a b:ByteArray)(w:World):Calls Tryz.prog 181 #[.string a,.string b] w fun e w'=>e= .returned (.int .i64 (Yd a b))/\w=w':=by
 obtain⟨q1,hq1⟩:∃q,Op.bytesLess a.toList b.toList=q:=⟨_,rfl⟩;obtain⟨q2,hq2⟩:∃q,(a.toList==b.toList)=q:=⟨_,rfl⟩;have HV:Hid (Yd a b=if q1=true then-1 else if q2=true then 0 else 1):=Aa (by unfold Yd;rw [hq1,hq2]);cases q1<;>cases q2<;>(
  go_enter Tryz.func181,Tryz.ntmps181
  go_wp2_with(go_at_call 201;refine(Ahm _ _).mono ?_;rintro e w'⟨rfl,rfl⟩)
  go_ret;exact⟨by rw [HV.out];rfl,rfl⟩)
theorem Aen(x:Wr)(key:ByteArray)(w:World):Calls Tryz.prog 149 #[NV x,.string key] w fun e w'=>e= .returned (.int .i64 (Yd x.key key))/\Below w.heap.size w w':=by
 obtain⟨W,hW⟩:∃W,W=w.alloc (.cells #[.string x.key,.string x.text,.bool x.gone] 87):=⟨_,rfl⟩;have B:BI W w.heap.size 87 [.string x.key,.string x.text,.bool x.gone]:=hW▸heap_alloc_new _ _;have hb:Below w.heap.size w W:=hW▸(Below.refl _ _).alloc (Ae _) _;have HC:=Aa (Ahn x.key key W);have y0:=B.cell 0;simp only [List.getElem?_cons_zero]at y0;have HB:=Aa hb;have HW:=Aa hW;unfold NV;clear B hb hW;go_enter Tryz.func149,Tryz.ntmps149
 go_wp2_with fail
 rw [<-HW.out]
 go_wp2_with fail
 refine HC.out.mono ?_;rintro e w1⟨rfl,rfl⟩
 go_wp2_with fail
 go_ret;exact⟨rfl,HB.out⟩
theorem jJ{w:World}{A:Option Addr}{s:List Wr}(h:Rd w A (s.length*3) (Fb s))(k:Nat)(hk:k<s.length):∃b off,A=some ⟨b,off,none⟩/\b<w.heap.size/\w.cell? ⟨b,off+k*3,none⟩=some (.string s[k].key)/\
 w.cell? ⟨b,off+k*3+1,none⟩=some (.string s[k].text)/\w.cell? ⟨b,off+k*3+2,none⟩=some (.bool s[k].gone):=by
 obtain⟨b,off,rfl,hb,hc⟩:=h.2 (by omega);have hf:=flat_get wrC 3 (fun _=>rfl) s k;refine⟨b,off,rfl,hb,?_,?_,?_⟩
 ·have:=hc (k*3) (by omega);rw [this];exact hf 0 hk (by decide)
 ·have:=hc (k*3+1) (by omega);rw [Vu,this];exact hf 1 hk (by decide)
 ·have:=hc (k*3+2) (by omega);rw [Vu,this];exact hf 2 hk (by decide)
theorem Aeo{w:World}{A:Option Addr}{c:Nat}{s:List Wr}(key:ByteArray)(hbig:s.length<=100000)(hr:Rd w A (s.length*3) (Fb s))(hu:XW s):
 Calls Tryz.prog 148 #[.slice A s.length c,.string key,.func (.func 149) #[] #[]] w fun e w'=>e= .returned (.tuple #[.int .i64 (Gq s key:Nat),.bool (gQ s key)])/\Below w.heap.size w w':=by
 have HR:=Aa hr;have HU:=Aa hu;clear hr hu;go_enter Tryz.func148,Tryz.ntmps148
 go_wp2_with fail
 go_loopg [9,10]s.length(fun g s7 s8 wr=>∃lo hi:Nat,s7= .int .i64 lo/\s8= .int .i64 hi/\lo<=hi/\hi<=s.length/\hi-lo<=g/\Below w.heap.size w wr/\(∀t(h:t<s.length),t<lo->FK s[t] key=true)/\(∀t(h:t<s.length),hi<=t->FK s[t] key=false))
 case atStart=>exact⟨0,s.length,rfl,rfl,Nat.zero_le _,Ae _,by omega,Below.refl _ _,fun t _ ht=>absurd ht (Nat.not_lt_zero _),fun t h1 h2=>by omega⟩
 case round=>
  obtain⟨lo,hi,rfl,rfl,hlh,hin,hg,hb,h1,h2⟩:=hrel;have I1:=Aa h1;have I2:=Aa h2;have HB:=Aa hb;have ag:=Aa (Rd.below HR.out hb);clear h1 h2 hb;have RS:=Aa (fun(x:Wr)W=>Aen x key W);unfold NV at RS;by_cases hlt:lo<hi
  ·have hml:(lo+hi)/2<s.length:=by omega
   obtain⟨b,off,rfl,hbw,q0,q1,q2⟩:=jJ ag.out ((lo+hi)/2) hml;obtain⟨x,hx⟩:∃x,x=s[(lo+hi)/2]:=⟨_,rfl⟩;rw [<-hx]at q0 q1 q2;have HX:=Aa hx;have hle:FK x key=Op.bytesLess x.key.toList key.toList:=rfl;cases hl:Op.bytesLess x.key.toList key.toList with
   | true=>
     rw [hl,HX.out]at hle;have hd:decide (Yd x.key key<0)=true:=by rw [show Yd x.key key= -1 by unfold Yd;rw [if_pos hl]];decide
     have HL:=Aa hle;clear hx hle hl
     go_wp2_with(go_at_call 149;refine(RS.out x _).mono ?_;rintro e w'⟨rfl,hb2⟩)
     go_roundg(hi- ((lo+hi)/2+1))
     case measure=>omega
     case rel=>
      exact⟨(lo+hi)/2+1,hi,by rw [show((lo:Int)+(hi:Int))/2+1=(((lo+hi)/2+1:Nat):Int)by omega],rfl,by omega,hin,Ae _,HB.out.trans (hb2.mono HB.out.size),HU.out.left hml HL.out,I2.out⟩
   | false=>
     rw [hl,HX.out]at hle;have hd:decide (Yd x.key key<0)=false:=by
      unfold Yd;rw [hl,if_neg (by decide)];split<;>decide
     have HL:=Aa hle;clear hx hle hl
     go_wp2_with(go_at_call 149;refine(RS.out x _).mono ?_;rintro e w'⟨rfl,hb2⟩)
     go_roundg((lo+hi)/2-lo)
     case measure=>omega
     case rel=>
      exact⟨lo,(lo+hi)/2,rfl,by rw [show((lo:Int)+(hi:Int))/2=(((lo+hi)/2:Nat):Int)by omega],by omega,by omega,Ae _,HB.out.trans (hb2.mono HB.out.size),I1.out,HU.out.right hml HL.out⟩
  ·have:hi=lo:=by omega
   subst this;by_cases hn:hi<s.length
   ·obtain⟨b,off,rfl,hbw,q0,q1,q2⟩:=jJ ag.out hi hn;obtain⟨h5,h6⟩:=jF hn (I2.out hi hn (Ae _)) I1.out;have hl:Op.bytesLess s[hi].key.toList key.toList=false:=I2.out hi hn (Ae _);obtain⟨x,hx⟩:∃x,x=s[hi]:=⟨_,rfl⟩;rw [<-hx]at q0 q1 q2 h6 hl;have hd:(Yd x.key key==0)=gQ s key:=by
     rw [h6];unfold Yd;rw [hl,if_neg (by decide)];cases(x.key.toList==key.toList)<;>rfl
    have H5:=Aa h5;clear hx h5 h6 hl;obtain⟨r,hrr⟩:∃r,gQ s key=r:=⟨_,rfl⟩;rw [hrr]at hd;have H6:=Aa hrr;clear hrr
    go_wp2_with(go_at_call 149;refine(RS.out x _).mono ?_;rintro e w'⟨rfl,hb2⟩)
    go_ret2;exact⟨by rw [H5.out,H6.out];rfl,HB.out.trans (hb2.mono HB.out.size)⟩
   ·have hle:hi=s.length:=by omega
    obtain⟨h5,h6⟩:=Aa9 (s:=s) (key:=key) (fun t ht=>I1.out t ht (by omega));have H5:=Aa h5;have H6:=Aa h6;have HLe:=Aa hle;clear hle h5 h6
    go_wp2_with fail
    go_ret2;exact⟨by rw [H5.out,H6.out,HLe.out];rfl,HB.out⟩
theorem Ye{w:World}{A:Option Addr}{c:Nat}{s:List Wr}(key:ByteArray)(hbig:s.length<=100000)(hr:Rd w A (s.length*3) (Fb s))(hu:XW s):
 Calls Tryz.prog 101 #[.slice A s.length c,.string key] w fun e w'=>e= .returned (.tuple #[.int .i64 (Gq s key:Nat),.bool (gQ s key)])/\Below w.heap.size w w':=by
 have HS:=Aa (Aeo (c:=c) key hbig hr hu);clear hr hu;go_enter Tryz.func101,Tryz.ntmps101
 go_wp2_with fail
 refine HS.out.mono ?_;rintro e w1⟨rfl,hb1⟩
 go_wp2_with fail
 go_ret2;exact⟨rfl,hb1⟩
def PK(x:Wr):Bool:=decide (x.key.size<=100)&&decide (x.text.size<=100)
def jK(l:List Wr):Bool:=l.all PK&&decide (l.length<=60)
theorem jL{l:List Wr}(h:jK l=true):l.length<=60/\∀x∈l,x.key.size<=100/\x.text.size<=100:=by
 unfold jK at h;rw [Bool.and_eq_true,Em]at h;refine⟨of_decide_eq_true h.2,fun x hx=> ?_⟩;have:=h.1 x hx;unfold PK at this;rw [Bool.and_eq_true]at this;exact⟨of_decide_eq_true this.1,of_decide_eq_true this.2⟩
theorem qy(l:List Wr)(A:Option Addr)(c:Nat)(w:World)(hl:l.length<=9223372036854775807)(h:Rd w A (l.length*3) (Fb l)):Calls Tryz.prog 9 #[.slice A l.length c] w fun e w'=>e= .returned (.bool (jK l))/\Below w.heap.size w w':=by
 have HR:=Aa h;clear h;go_enter Tryz.func9,Tryz.ntmps9
 go_wp2_with fail
 go_loopw [7](fun i wr=>∃k:Nat,k<=l.length/\i= .int .i64 (k:Nat)/\(∀j(hj:j<l.length),j<k->PK l[j]=true)/\Below w.heap.size w wr)(fun i _=>l.length- (intOf i).toNat)
 case atStart=>exact⟨0,Nat.zero_le _,rfl,fun j _ h=>absurd h (by omega),Below.refl _ _⟩
 case round=>
  obtain⟨k,hkl,rfl,hall,hb⟩:=hrel;have HB:=Aa hb;have HS:=Aa hall;clear hb hall;by_cases hlt:k<l.length
  ·have hx1:(k:Int)<(l.length:Int):=by omega
   have hx2:decide ((k:Int)<(l.length:Int))=true:=decide_eq_true hx1;have hx5:decide (k<l.length)=true:=decide_eq_true hlt;obtain⟨b,off,rfl,hbw,q0,q1,q2⟩:=jJ (Rd.below HR.out HB.out) k hlt;have hwk:IntKind.i64.wrap ((k:Int)+1)=(k:Int)+1:=IntWalk.i64_in _ (by omega);have HF:Hid (PK l[k]=false->jK l=false):=Aa (fun h=>by
    unfold jK;rw [Bool.and_eq_false_iff];exact .inl (by rw [List.all_eq_false];exact⟨_,List.getElem_mem hlt,by rw [h];decide⟩))
   have HN:Hid (PK l[k]=true->∀j(hj:j<l.length),j<k+1->PK l[j]=true):=Aa (fun h j hj hjk=>by
    by_cases e:j=k
    ·subst e;exact h
    ·exact HS.out j hj (by omega))
   have hsw:PK l[k]=(decide (l[k].key.size<=100)&&decide (l[k].text.size<=100)):=rfl;generalize l[k]=x at*;obtain⟨W,hW⟩:∃W,W=wr.alloc (.cells #[.string x.key,.string x.text,.bool x.gone] 37):=⟨_,rfl⟩;have HB2:=Aa (HB.out.trans ((show Below wr.heap.size wr W from hW▸(Below.refl _ _).alloc (Ae _) _).mono HB.out.size));have HW:=Aa hW;clear hW;by_cases h1:100<x.key.size
   ·have t1:decide ((100:Int)<(x.key.size:Int))=true:=decide_eq_true (by omega);have HF':=Aa (HF.out (by rw [hsw,decide_eq_false (by omega)];rfl));clear HF HN hsw
    go_wp2_with fail
    go_ret;exact⟨by rw [HF'.out];rfl,HW.out▸HB2.out⟩
   ·have t1:decide ((100:Int)<(x.key.size:Int))=false:=decide_eq_false (by omega);by_cases h2:100<x.text.size
    ·have t2:decide ((100:Int)<(x.text.size:Int))=true:=decide_eq_true (by omega);have HF':=Aa (HF.out (by rw [hsw,decide_eq_false (by omega:¬x.text.size<=100),Bool.and_false]));clear HF HN hsw
     go_wp2_with fail
     go_ret;exact⟨by rw [HF'.out];rfl,HW.out▸HB2.out⟩
    ·have t2:decide ((100:Int)<(x.text.size:Int))=false:=decide_eq_false (by omega);have HN':=Aa (HN.out (by rw [hsw,decide_eq_true (by omega),decide_eq_true (by omega)];rfl));clear HF HN hsw
     go_wp2_with fail
     go_roundw
     case rel=>exact⟨k+1,by omega,by go_num,HN'.out,HW.out▸HB2.out⟩
     case measure=>simp [intOf];omega
  ·have hx1:decide ((k:Int)<(l.length:Int))=false:=decide_eq_false (by omega);have hx5:decide (k<l.length)=false:=decide_eq_false hlt;have HF:Hid (jK l=decide ((l.length:Int)<=60)):=Aa (by
    unfold jK;rw [Em.2 (fun x hx=>by
     obtain⟨j,hj,rfl⟩:=List.getElem_of_mem hx;exact HS.out j hj (by omega)),Bool.true_and]
    rw [Bool.eq_iff_iff,decide_eq_true_iff,decide_eq_true_iff];omega)
   clear HS;by_cases h60:(l.length:Int)<=60
   ·have t1:decide ((l.length:Int)<=60)=true:=decide_eq_true h60;rw [t1]at HF
    go_wp2_with fail
    go_ret;exact⟨by rw [HF.out];rfl,HB.out⟩
   ·have t1:decide ((l.length:Int)<=60)=false:=decide_eq_false h60;rw [t1]at HF
    go_wp2_with fail
    go_ret;exact⟨by rw [HF.out];rfl,HB.out⟩
end Go.Proofs.YtjcppneoncpdbaaGreatDoor
