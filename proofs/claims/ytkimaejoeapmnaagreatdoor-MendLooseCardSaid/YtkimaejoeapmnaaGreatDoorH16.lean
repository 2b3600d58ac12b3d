import Derived.Deep.LoopGhost
import Derived.Test.YtkimaejoeapmnaaGreatDoorH15
set_option linter.defProp false
set_option maxHeartbeats 32000000
set_option maxRecDepth 100000
open Go.Lib renaming hid->Aa
open Nat renaming le_refl->Ad,lt_of_not_le->Rj,add_assoc->Xt
open List renaming getLast?_eq_getElem?->eQ,getElem?_eq_getElem->Af,length_append->AQ,all_eq_true->EH
namespace Go.Proofs.YtkimaejoeapmnaaGreatDoor
open Go.RowKit
open Go.Proofs.Tryz
def Tryz.Aak:JS prog 105 111 (.agg #[.int .i64 0,.int .u64 0,.int .u64 0,.bool false,.string ⟨#[]⟩]) 5 48:=⟨underlying105,by kernel_rfl,rfl⟩
def Ag3(s:St)(first:UInt64)(w:World)(e:Ending)(w':World):Prop:=
 η w w'/\match Iq s first with
  | none=>e= .returned (.tuple #[.slice none 0 0,.int .i64 5])
  | some l=>MB s l/\∃v,e= .returned (.tuple #[v,.int .i64 0])/\w'.ownsRow w.heap.size 111 5 v l.length (kN l)
def Aki(s:St)(first:UInt64)(w:World)(g:Nat)(v a:Value)(wr:World):Prop:=
 ∃(acc:List Lk)(at_:UInt64)(f:Nat),a= .int .u64 (at_.toNat:Int)/\OM s f at_ acc=Iq s first/\EG acc<f/\EG acc<=g/\MB s acc/\wr.ownsRow w.heap.size 111 5 v acc.length (kN acc)/\η w wr
def Qu(name:UInt64): -9223372036854775808<=Bj name/\Bj name<=9223372036854775807:=by
 have hlt:=name.toNat_lt;unfold Bj;simp only [IntKind.wrap,IntKind.bits,IntKind.signed,Bool.true_and,decide_eq_true_eq,show(2:Int)^(64-1)=9223372036854775808 from rfl,show(2:Int)^64=18446744073709551616 from rfl];constructor<;>split<;>omega
def LJ{w w':World}{base n k:Nat}{e:TypeId}{v:Value}{xs:List Value}(h:w.ownsRow base e k v n xs)(hb:η w w'):w'.ownsRow base e k v n xs:=
 EU h (Kept.of_below (r:=none) hb) (by
  rcases h.2 with⟨h1,_⟩| ⟨g,cap,cur,h1,_⟩
  ·exact .inr (by subst h1;rfl)
  ·exact .inl (by subst h1;exact λe=>nomatch e))
section
variable{w w':World}{d p L:Nat}{s:St}{F:Nat->Prop}
def Tq(h:Sys w d p L s F)(first:UInt64):Calls prog 40 #[Az d,Az p,.int .u64 (first.toNat:Int)] w (Ag3 s first w):=by
 have HX:=Aa h;have HN:=Aa (WJ h);have HP:=Aa h.pos;clear h;go_enter func40,ntmps40
 go_wp2_with fail
 refine HN.out.mono ?_;rintro e w1⟨rfl,rfl⟩;clear HN
 go_wp2_with fail
 go_loopg [8,9](EG [])(λg v a wr=>Aki s first w g v a wr)
 case atStart=>exact⟨[],first,_,rfl,rfl,by decide,Ad _,MB.nil s,World.ownsRow_nil _ _ _ _,Below.refl _ _⟩
 case round=>
  obtain⟨acc,at_,f,rfl,hgo,hf,hg,hinv,hown,hb⟩:=hrel;obtain⟨f,rfl⟩:∃f',f=f'+1:=⟨f-1,O⟩;rw [OM]at hgo;have HO:=Aa hown;have HB:=Aa hb;have HI:=Aa hinv;have hfew:=hinv.few;clear hown hb hinv;by_cases h0:at_.toNat=0
  ·rw [if_pos h0]at hgo;have t0:((at_.toNat:Int)!=0)=false:=by rw [h0];rfl
   have HG:=Aa hgo;clear hgo h0 hf hg
   go_wp2_with fail
   go_ret2;refine⟨HB.out,?_⟩;rw [<-HG.out];exact⟨HI.out,_,rfl,HO.out⟩
  ·rw [if_neg h0]at hgo;have t0:((at_.toNat:Int)!=0)=true:=by rw [bne_iff_ne];omega
   have ho:=Qu at_;have hwr:IntKind.i64.wrap (at_.toNat:Int)=Bj at_:=rfl;obtain⟨off,hoff⟩:∃off,off=Bj at_:=⟨_,rfl⟩;rw [<-hoff]at hwr ho hgo;have hXr:=HX.out.below HB.out;have QX:=Aa (show Calls prog 83 #[Az p,.int .i64 off] wr _ from by
    obtain⟨tb,hb,n,cT,cH,own,hr, -⟩:=hXr;exact ZL hr.at off ho)
   clear hoff;by_cases hc:D7 s off=1
   ·rw [if_neg (by rw [hc];exact λh=>h rfl)]at hgo;rw [hc]at QX;obtain⟨hL0,hL1,ok,hn⟩:=HP.out;obtain⟨ho0,ho1,hj,hjL⟩:=Ac0 ok hn hL1 hc;obtain⟨j,hjd⟩:∃j,j=off.toNat/8:=⟨_,rfl⟩;rw [<-hjd]at hj hjL hgo;have HJ:=Aa hj;have HJd:=Aa hjd;have Asf:off.toNat/8=j:=hjd.symm;have HJe:=Aa Asf;have HC:=Aa hc;have ZZ:=Aa hgo;have HF:=Aa hf;have HGh:=Aa hg;have HR:=Aa (And.intro ho0 ho1);have An3:=Aa (λ(W:World)(hW:η w W)=>jR (HX.out.below hW) j 8 hjL);rw [<-hj,show((8:Nat):Int)=8 from rfl]at An3;clear hj hjd Asf hc hgo hf hg hL0 hL1 ok hn ho0 ho1 hjL hXr
    go_wp2_with fail
    refine QX.out.mono ?_;rintro e w2⟨rfl,hd⟩;have HB2:=Aa (HB.out.trans (hd.below w.heap.size));have Asg:=hd.below wr.heap.size;have An4:=Aa Asg;clear QX hd Asg
    go_wp2_with fail
    refine(An3.out w2 HB2.out).mono ?_;rintro e w3⟨v3,rfl,ho3,hb3⟩;obtain⟨A3,c3,rfl,hc3,hr3⟩:=CU ho3;have HB3:=Aa (τ HB2.out hb3);have An5:=Aa (τ An4.out hb3);have HDc:=Aa (Acw (wordsAt s.ws j 8) A3 c3 w3 hc3 hr3);clear ho3 hr3 hb3 An3
    go_wp2_with fail
    refine HDc.out.mono ?_;rintro e w4⟨hb4,WM⟩;have HB4:=Aa (τ HB3.out hb4);have Asi:=τ An5.out hb4;have Akj:=Aa Asi;clear hb4 HDc Asi An5 An4 HB3 HB2;cases hdc:Nq (wordsAt s.ws j 8)with
    | none=>
      have uO:=ZZ.out;rw [hdc]at WM uO;replace WM:e= .returned (.tuple #[.agg #[.int .u64 0,.int .u64 0,.bool false,.string ⟨#[]⟩],.bool false]):=WM;subst WM;have uO:Hid (none=Iq s first):=Aa uO;clear hdc ZZ
      go_wp2_with fail
      go_quiet(fail)
      go_wp2_with fail
      go_ret2;refine⟨(HB4.out.alloc HB4.out.size _).trans ((Dr.one _ _).below _),?_⟩;rw [<-uO.out];rfl
    | some r=>
      have uO:=ZZ.out;rw [hdc]at WM uO;replace WM:e= .returned (.tuple #[.agg #[.int .u64 (r.stamp.toNat:Int),.int .u64 (r.next.toNat:Int),.bool r.gone,.string r.text],.bool true]):=WM;subst WM;have uO:=Aa uO;have HDc:=Aa hdc;clear hdc ZZ;obtain⟨W5,ny,hb5,B5⟩:=EZ w4 109 [.int .u64 (r.stamp.toNat:Int),.int .u64 (r.next.toNat:Int),.bool r.gone,.string r.text];have dM:=τ HB4.out hb5;have An6:=τ Akj.out hb5;have HLt:Hid (∀g,u8.ownBlock=some g->g<wr.heap.size):=Aa (λg hg=>(HO.out.lt g hg).2);have hO5:=EU HO.out (Kept.of_below (r:=none) An6) (by
       rcases HO.out.2 with⟨h1,_⟩| ⟨g,cap,cur,h1,_⟩
       ·exact .inr (by subst h1;rfl)
       ·exact .inl (by subst h1;exact λe=>nomatch e))
      obtain⟨A8,c8,rfl,hc8,hl8⟩:=VA hO5;obtain⟨y0,y1,y2,y3,_,_,_,_⟩:=CG B5;have fE:=Aa hO5;have Jz:=Aa dM;have Asj:=Aa An6;have HK5:=Aa B5;have hs5:=dM.size;have HW5:=Aa ny;clear hb5 B5 dM An6 hO5 HO ny;obtain⟨n,hn⟩:∃n,n=acc.length:=⟨_,rfl⟩;have HN2:=Aa hn;rw [<-hn]at fE;rw [<-hn]at hfew HLt;rw [<-hn];by_cases hlt:EG acc<=r.stamp.toNat
      ·have HG2:=uO.out
       dsimp only at HG2
       rw [if_pos hlt]at HG2;have HG2:=Aa HG2;have hacc:acc≠[]:=λe=>by
        subst e;have:=r.stamp.toNat_lt;have h2:(18446744073709551616:Nat)<=r.stamp.toNat:=hlt;omega
       obtain⟨m,hm⟩:∃m,n=m+1:=⟨n-1,by have:acc.length≠0:=(λe=>hacc (List.eq_nil_of_length_eq_zero e));omega⟩;obtain⟨b,Asl,rfl,hb8,q0,q1,q2,q3,q4⟩:=hl8.at m O;have hL8:EG acc=acc[m].rc.stamp.toNat:=by
        unfold EG;rw [eQ,Af O];simp only [show acc.length-1=m by omega]
       rw [hL8]at hlt;subst hm;have h0m:decide ((0:Int)<(m:Int)+1)=true:=decide_eq_true O;have h0n:decide (0<m+1)=true:=decide_eq_true O;have hm1:IntKind.i64.wrap ((m:Int)+1-1)=(m:Int):=by rw [show(m:Int)+1-1=(m:Int)by omega];exact IntWalk.i64_in _ O
       have t5:decide ((acc[m].rc.stamp.toNat:Int)<=(r.stamp.toNat:Int))=true:=decide_eq_true O;have t6:decide (acc[m].rc.stamp.toNat<=r.stamp.toNat)=true:=decide_eq_true hlt;generalize acc[m].rc.stamp=ls at*;clear hL8 hl8 hacc hn hlt q0 q2 q3 q4
       go_wp2_with fail
       rw [<-HW5.out]
       go_quiet(fail)
       go_wp2_with fail
       go_ret2;refine⟨Jz.out.trans ((Dr.one _ _).below _),?_⟩;rw [<-HG2.out];rfl
      ·have UQ:Hid (r.stamp.toNat<EG acc):=Aa (Rj hlt);have HG2:=uO.out
       dsimp only at HG2
       rw [if_neg hlt]at HG2;have HG2:=Aa HG2;have HI2:=Aa (HI.out.step HR.out HC.out (by rw [HJe.out];exact HDc.out) (Rj hlt));cases n with
       | zero=>
         clear hl8 hn
         go_wp2_with fail
         rw [<-HW5.out]
         go_quiet(fail)
         obtain⟨W6,QY⟩:∃W6,W6=W5.drewN nq:=⟨_,rfl⟩;have hd6:η W5 W6:=by rw [QY];exact(Dr.one _ _).below _
         have K6:=HK5.out.ξ hd6;obtain⟨y0,y1,y2,y3,_,_,_,_⟩:=CG K6;have kP:=Aa (LJ fE.out hd6);have hs6:W6.heap.size=W5.heap.size:=by rw [QY];rfl
         have Me:=Aa (τ Jz.out hd6);have HK6:=Aa K6;have hbs:w.heap.size<=W6.heap.size:=Me.out.size;have HS6:=Aa hs6;rw [<-QY];clear hd6 K6 QY fE Jz HK5 Asj hs6 hlt
         go_wp2_with(at_builtin;refine Ep rfl (.tmp 61) (.tmp 65) 105 rfl Tryz.Aak W6 w.heap.size (.slice A8 0 c8) 0 (kN acc) [.int .i64 off,.int .u64 (r.stamp.toNat:Int),.int .u64 (r.next.toNat:Int),.bool r.gone,.string r.text] rfl kP.out rfl W6.heap.size 1 rfl rfl rfl U (by intro u hu;simp at hu;rcases hu with rfl| rfl| rfl| rfl| rfl<;>rfl) O U hbs ?_;intro g7 c7 w7 hO7 hB7 hK7 hg7;have K7:CS w7 w4.heap.size 109 _:=(hK7.2 w4.heap.size HK6.out.lt (λe=>Ψ (HLt.out _ e.symm) Akj.out.size)).trans HK6.out;obtain⟨z0,z1,z2,z3,_,_,_,_⟩:=CG K7)
         have HO7:=Aa hO7;have dK:=Aa (Me.out.trans hB7);clear hO7 hB7 hK7 hg7 K7 y0 y1 y2 y3
         go_wp2_with fail
         go_roundg(r.stamp.toNat)
         case measure=>have:=UQ.out;have:=HGh.out;omega
         case rel=>exact⟨acc++[⟨off,r⟩],r.next,f,rfl,HG2.out,by rw [GH];have:=UQ.out;have:=HF.out;show r.stamp.toNat<f;omega,by rw [GH];exact Ad _,HI2.out,by rw [qo,AQ,<-HN2.out];exact HO7.out,dK.out⟩
       | succ m=>
         obtain⟨b,Asl,rfl,hb8,q0,q1,q2,q3,q4⟩:=hl8.at m O;have hL8:EG acc=acc[m].rc.stamp.toNat:=by
          unfold EG;rw [eQ,Af O];simp only [show acc.length-1=m by omega]
         have h0m:decide ((0:Int)<(m:Int)+1)=true:=decide_eq_true O;have h0n:decide (0<m+1)=true:=decide_eq_true O;have hm1:IntKind.i64.wrap ((m:Int)+1-1)=(m:Int):=by rw [show(m:Int)+1-1=(m:Int)by omega];exact IntWalk.i64_in _ O
         have t5:decide ((acc[m].rc.stamp.toNat:Int)<=(r.stamp.toNat:Int))=false:=decide_eq_false O;have t6:decide (acc[m].rc.stamp.toNat<=r.stamp.toNat)=false:=decide_eq_false O;generalize acc[m].rc.stamp=ls at*;clear hL8 hl8 hn q0 q2 q3 q4
         go_wp2_with fail
         rw [<-HW5.out]
         go_quiet(fail)
         obtain⟨W6,QY⟩:∃W6,W6=W5.drewN nq:=⟨_,rfl⟩;have hd6:η W5 W6:=by rw [QY];exact(Dr.one _ _).below _
         have K6:=HK5.out.ξ hd6;obtain⟨y0,y1,y2,y3,_,_,_,_⟩:=CG K6;have kP:=Aa (LJ fE.out hd6);have hs6:W6.heap.size=W5.heap.size:=by rw [QY];rfl
         have Me:=Aa (τ Jz.out hd6);have HK6:=Aa K6;have hbs:w.heap.size<=W6.heap.size:=Me.out.size;have HS6:=Aa hs6;rw [<-QY];clear hd6 K6 QY fE Jz HK5 Asj hs6 hlt
         go_wp2_with(at_builtin;refine Ep rfl (.tmp 61) (.tmp 65) 105 rfl Tryz.Aak W6 w.heap.size (.slice (some (Δ b Asl)) (m+1) c8) (m+1) (kN acc) [.int .i64 off,.int .u64 (r.stamp.toNat:Int),.int .u64 (r.next.toNat:Int),.bool r.gone,.string r.text] rfl kP.out rfl W6.heap.size 1 rfl rfl rfl U (by intro u hu;simp at hu;rcases hu with rfl| rfl| rfl| rfl| rfl<;>rfl) O U hbs ?_;intro g7 c7 w7 hO7 hB7 hK7 hg7;have K7:CS w7 w4.heap.size 109 _:=(hK7.2 w4.heap.size HK6.out.lt (λe=>Ψ (HLt.out _ e.symm) Akj.out.size)).trans HK6.out;obtain⟨z0,z1,z2,z3,_,_,_,_⟩:=CG K7)
         have HO7:=Aa hO7;have dK:=Aa (Me.out.trans hB7);clear hO7 hB7 hK7 hg7 K7 y0 y1 y2 y3
         go_wp2_with fail
         go_roundg(r.stamp.toNat)
         case measure=>have:=UQ.out;have:=HGh.out;omega
         case rel=>exact⟨acc++[⟨off,r⟩],r.next,f,rfl,HG2.out,by rw [GH];have:=UQ.out;have:=HF.out;show r.stamp.toNat<f;omega,by rw [GH];exact Ad _,HI2.out,by rw [qo,AQ,<-HN2.out];exact HO7.out,dK.out⟩
   ·rw [if_pos hc]at hgo;have HG:=Aa hgo;have t1:(((D7 s off:Nat):Int)!=1)=true:=by rw [bne_iff_ne];omega
    clear hgo hf hg
    go_wp2_with fail
    refine QX.out.mono ?_;rintro e w2⟨rfl,hd⟩;have HB2:=Aa (HB.out.trans (hd.below w.heap.size))
    go_wp2_with fail
    go_ret2;refine⟨HB2.out,?_⟩;rw [<-HG.out];rfl
end
def aB(a b:ByteArray):Int:=if Op.bytesLess a.toList b.toList=true then-1 else if(a.toList==b.toList)=true then 0 else 1
def An7(a:ByteArray)(w:World):Calls prog 194 #[.string a] w λe w'=>e= .returned (.bool false)/\w=w':=by
 go_enter func194,ntmps194;go_wp2;go_ret;exact⟨by simp,rfl⟩
def An8(a b:ByteArray)(w:World):Calls prog 171 #[.string a,.string b] w λe w'=>e= .returned (.int .i64 (aB a b))/\w=w':=by
 obtain⟨q1,hq1⟩:∃q,Op.bytesLess a.toList b.toList=q:=⟨_,rfl⟩;obtain⟨q2,hq2⟩:∃q,(a.toList==b.toList)=q:=⟨_,rfl⟩;have HV:Hid (aB a b=if q1=true then-1 else if q2=true then 0 else 1):=Aa (by unfold aB;rw [hq1,hq2]);cases q1<;>cases q2<;>(
  go_enter func171,ntmps171
  go_wp2_with(go_at_call 194;refine(An7 _ _).mono ?_;rintro e w'⟨rfl,rfl⟩)
  go_ret;exact⟨by rw [HV.out];rfl,rfl⟩)
def Akk(x:Wr)(key:ByteArray)(w:World):Calls prog 137 #[U1 x,.string key] w λe w'=>e= .returned (.int .i64 (aB x.key key))/\η w w':=by
 obtain⟨W,hW,hb,B⟩:=EZ w 74 [.string x.key,.string x.text,.bool x.gone];have HC:=Aa (An8 x.key key W);have y0:=B.p1;have HB:=Aa hb;have HW:=Aa hW;unfold U1;clear B hb hW;go_enter func137,ntmps137
 go_wp2_with fail
 rw [<-HW.out]
 go_wp2_with fail
 refine HC.out.mono ?_;rintro e w1⟨rfl,rfl⟩
 go_wp2_with fail
 go_ret;exact⟨rfl,HB.out⟩
def qy{w:World}{A:Option Addr}{s:List Wr}(h:Rd w A (s.length*3) (FQ s))(k:Nat)(hk:k<s.length):∃b off,A=some (Δ b off)/\b<w.heap.size/\w.cell? (Δ b (off+k*3))=some (.string s[k].key)/\
 w.cell? (Δ b (off+k*3+1))=some (.string s[k].text)/\w.cell? (Δ b (off+k*3+2))=some (.bool s[k].gone):=by
 obtain⟨b,off,rfl,hb,hc⟩:=h.2 O;have hf:=flat_get wrC 3 (λ_=>rfl) s k;refine⟨b,off,rfl,hb,?_,?_,?_⟩
 ·have:=hc (k*3) O;rw [this];exact hf 0 hk U
 ·have:=hc (k*3+1) O;rw [Xt,this];exact hf 1 hk U
 ·have:=hc (k*3+2) O;rw [Xt,this];exact hf 2 hk U
def Akl{w:World}{A:Option Addr}{c:Nat}{s:List Wr}(key:ByteArray)(hbig:s.length<=100000)(hr:Rd w A (s.length*3) (FQ s))(hu:af s):
 Calls prog 136 #[.slice A s.length c,.string key,.func (.func 137) #[] #[]] w λe w'=>e= .returned (.tuple #[.int .i64 (GN s key:Nat),.bool (nD s key)])/\η w w':=by
 have HR:=Aa hr;have HU:=Aa hu;clear hr hu;go_enter func136,ntmps136
 go_wp2_with fail
 go_loopg [9,10]s.length(λg s7 s8 wr=>∃lo hi:Nat,s7= .int .i64 lo/\s8= .int .i64 hi/\lo<=hi/\hi<=s.length/\hi-lo<=g/\η w wr/\(∀t(h:t<s.length),t<lo->Gj s[t] key=true)/\(∀t(h:t<s.length),hi<=t->Gj s[t] key=false))
 case atStart=>exact⟨0,s.length,rfl,rfl,Nat.zero_le _,Ad _,O,Below.refl _ _,λt _ ht=>absurd ht (Nat.not_lt_zero _),λt h1 h2=>O⟩
 case round=>
  obtain⟨lo,hi,rfl,rfl,hlh,hin,hg,hb,h1,h2⟩:=hrel;have I1:=Aa h1;have I2:=Aa h2;have HB:=Aa hb;have gY:=Aa (Rd.below HR.out hb);clear h1 h2 hb;have MX:=Aa (λ(x:Wr)W=>Akk x key W);unfold U1 at MX;by_cases hlt:lo<hi
  ·have hml:(lo+hi)/2<s.length:=O
   obtain⟨b,off,rfl,hbw,q0,q1,q2⟩:=qy gY.out ((lo+hi)/2) hml;obtain⟨x,hx⟩:∃x,x=s[(lo+hi)/2]:=⟨_,rfl⟩;rw [<-hx]at q0 q1 q2;have HX:=Aa hx;have hle:Gj x key=Op.bytesLess x.key.toList key.toList:=rfl;cases hl:Op.bytesLess x.key.toList key.toList with
   | true=>
     rw [hl,HX.out]at hle;have hd:decide (aB x.key key<0)=true:=by rw [show aB x.key key= -1 by unfold aB;rw [if_pos hl]];decide
     have HL:=Aa hle;clear hx hle hl
     go_wp2_with(go_at_call 137;refine(MX.out x _).mono ?_;rintro e w'⟨rfl,hb2⟩)
     go_roundg(hi- ((lo+hi)/2+1))
     case measure=>omega
     case rel=>
      exact⟨(lo+hi)/2+1,hi,by rw [show((lo:Int)+(hi:Int))/2+1=(((lo+hi)/2+1:Nat):Int)by omega],rfl,O,hin,Ad _,τ HB.out hb2,HU.out.left hml HL.out,I2.out⟩
   | false=>
     rw [hl,HX.out]at hle;have hd:decide (aB x.key key<0)=false:=by
      unfold aB;rw [hl,if_neg U];split<;>decide
     have HL:=Aa hle;clear hx hle hl
     go_wp2_with(go_at_call 137;refine(MX.out x _).mono ?_;rintro e w'⟨rfl,hb2⟩)
     go_roundg((lo+hi)/2-lo)
     case measure=>omega
     case rel=>
      exact⟨lo,(lo+hi)/2,rfl,by rw [show((lo:Int)+(hi:Int))/2=(((lo+hi)/2:Nat):Int)by omega],O,O,Ad _,τ HB.out hb2,I1.out,HU.out.right hml HL.out⟩
  ·have:hi=lo:=O
   subst this;by_cases hn:hi<s.length
   ·obtain⟨b,off,rfl,hbw,q0,q1,q2⟩:=qy gY.out hi hn;obtain⟨h5,h6⟩:=qm hn (I2.out hi hn (Ad _)) I1.out;have hl:Op.bytesLess s[hi].key.toList key.toList=false:=I2.out hi hn (Ad _);obtain⟨x,hx⟩:∃x,x=s[hi]:=⟨_,rfl⟩;rw [<-hx]at q0 q1 q2 h6 hl;have hd:(aB x.key key==0)=nD s key:=by
     rw [h6];unfold aB;rw [hl,if_neg U];cases(x.key.toList==key.toList)<;>rfl
    have H5:=Aa h5;clear hx h5 h6 hl;obtain⟨r,hrr⟩:∃r,nD s key=r:=⟨_,rfl⟩;rw [hrr]at hd;have H6:=Aa hrr;clear hrr
    go_wp2_with(go_at_call 137;refine(MX.out x _).mono ?_;rintro e w'⟨rfl,hb2⟩)
    go_ret2;exact⟨by rw [H5.out,H6.out];rfl,τ HB.out hb2⟩
   ·have hle:hi=s.length:=O
    obtain⟨h5,h6⟩:=Agt (s:=s) (key:=key) (λt ht=>I1.out t ht O);have H5:=Aa h5;have H6:=Aa h6;have xA:=Aa hle;clear hle h5 h6
    go_wp2_with fail
    go_ret2;exact⟨by rw [H5.out,H6.out,xA.out];rfl,HB.out⟩
def aC{w:World}{A:Option Addr}{c:Nat}{s:List Wr}(key:ByteArray)(hbig:s.length<=100000)(hr:Rd w A (s.length*3) (FQ s))(hu:af s):
 Calls prog 89 #[.slice A s.length c,.string key] w λe w'=>e= .returned (.tuple #[.int .i64 (GN s key:Nat),.bool (nD s key)])/\η w w':=by
 have HS:=Aa (Akl (c:=c) key hbig hr hu);clear hr hu;go_enter func89,ntmps89
 go_wp2_with fail
 refine HS.out.mono ?_;rintro e w1⟨rfl,hb1⟩
 go_wp2_with fail
 go_ret2;exact⟨rfl,hb1⟩
def Qv(x:Wr):Bool:=decide (x.key.size<=100)&&decide (x.text.size<=100)
def qA(l:List Wr):Bool:=l.all Qv&&decide (l.length<=60)
def qB{l:List Wr}(h:qA l=true):l.length<=60/\∀x∈l,x.key.size<=100/\x.text.size<=100:=by
 unfold qA at h;rw [Bool.and_eq_true,EH]at h;refine⟨of_decide_eq_true h.2,λx hx=> ?_⟩;have:=h.1 x hx;unfold Qv at this;rw [Bool.and_eq_true]at this;exact⟨of_decide_eq_true this.1,of_decide_eq_true this.2⟩
def xW(l:List Wr)(A:Option Addr)(c:Nat)(w:World)(hl:l.length<=9223372036854775807)(h:Rd w A (l.length*3) (FQ l)):Calls prog 42 #[.slice A l.length c] w λe w'=>e= .returned (.bool (qA l))/\η w w':=by
 have HR:=Aa h;clear h;go_enter func42,ntmps42
 go_wp2_with fail
 go_loopw [7](λi wr=>∃k:Nat,k<=l.length/\i= .int .i64 (k:Nat)/\(∀j(hj:j<l.length),j<k->Qv l[j]=true)/\η w wr)(λi _=>l.length- (intOf i).toNat)
 case atStart=>exact⟨0,Nat.zero_le _,rfl,λj _ h=>absurd h O,Below.refl _ _⟩
 case round=>
  obtain⟨k,hkl,rfl,hall,hb⟩:=hrel;have HB:=Aa hb;have HS:=Aa hall;clear hb hall;by_cases hlt:k<l.length
  ·obtain⟨hx1,hx2,hx5⟩:=Yg hlt;obtain⟨b,off,rfl,hbw,q0,q1,q2⟩:=qy (Rd.below HR.out HB.out) k hlt;have hwk:=eX k O;have HF:Hid (Qv l[k]=false->qA l=false):=Aa (λh=>by
    unfold qA;rw [Bool.and_eq_false_iff];exact .inl (by rw [List.all_eq_false];exact⟨_,List.getElem_mem hlt,by rw [h];decide⟩))
   have HN:Hid (Qv l[k]=true->∀j(hj:j<l.length),j<k+1->Qv l[j]=true):=Aa (λh j hj hjk=>by
    by_cases e:j=k
    ·subst e;exact h
    ·exact HS.out j hj O)
   have hsw:Qv l[k]=(decide (l[k].key.size<=100)&&decide (l[k].text.size<=100)):=rfl;generalize l[k]=x at*;obtain⟨W,hW⟩:∃W,W=wr.alloc (.cells #[.string x.key,.string x.text,.bool x.gone] 115):=⟨_,rfl⟩;have HB2:=Aa (τ HB.out (show η wr W from hW▸(Below.refl _ _).alloc (Ad _) _));have HW:=Aa hW;clear hW;by_cases h1:100<x.key.size
   ·have t1:decide ((100:Int)<(x.key.size:Int))=true:=decide_eq_true O;have HF':=Aa (HF.out (by rw [hsw,decide_eq_false O];rfl));clear HF HN hsw
    go_wp2_with fail
    go_ret;exact⟨by rw [HF'.out];rfl,HW.out▸HB2.out⟩
   ·have t1:decide ((100:Int)<(x.key.size:Int))=false:=decide_eq_false O;by_cases h2:100<x.text.size
    ·have t2:decide ((100:Int)<(x.text.size:Int))=true:=decide_eq_true O;have HF':=Aa (HF.out (by rw [hsw,decide_eq_false (by omega:¬x.text.size<=100),Bool.and_false]));clear HF HN hsw
     go_wp2_with fail
     go_ret;exact⟨by rw [HF'.out];rfl,HW.out▸HB2.out⟩
    ·have t2:decide ((100:Int)<(x.text.size:Int))=false:=decide_eq_false O;have HN':=Aa (HN.out (by rw [hsw,decide_eq_true O,decide_eq_true O];rfl));clear HF HN hsw
     go_wp2_with fail
     go_roundw
     case rel=>exact⟨k+1,O,by go_num,HN'.out,HW.out▸HB2.out⟩
     case measure=>simp [intOf];omega
  ·obtain⟨hx1,hx5⟩:=mQ hlt;have HF:Hid (qA l=decide ((l.length:Int)<=60)):=Aa (by
    unfold qA;rw [EH.2 (λx hx=>by
     obtain⟨j,hj,rfl⟩:=List.getElem_of_mem hx;exact HS.out j hj O),Bool.true_and]
    rw [Bool.eq_iff_iff,decide_eq_true_iff,decide_eq_true_iff];omega)
   clear HS;by_cases h60:(l.length:Int)<=60
   ·have t1:decide ((l.length:Int)<=60)=true:=decide_eq_true h60;rw [t1]at HF
    go_wp2_with fail
    go_ret;exact⟨by rw [HF.out];rfl,HB.out⟩
   ·have t1:decide ((l.length:Int)<=60)=false:=decide_eq_false h60;rw [t1]at HF
    go_wp2_with fail
    go_ret;exact⟨by rw [HF.out];rfl,HB.out⟩
