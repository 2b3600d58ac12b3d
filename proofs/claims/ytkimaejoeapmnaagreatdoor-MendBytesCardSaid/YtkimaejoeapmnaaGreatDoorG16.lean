import Derived.Deep.LoopGhost
import Derived.Test.YtkimaejoeapmnaaGreatDoorG15
set_option maxHeartbeats 32000000
set_option maxRecDepth 100000
open Go.Lib renaming hid->Aa
open Nat renaming le_refl->Ad,lt_of_not_le->QK
open List renaming getLast?_eq_getElem?->bT,getElem?_eq_getElem->Af,length_append->AQ
namespace Go.Proofs.YtkimaejoeapmnaaGreatDoor
open Go.RowKit
theorem Tryz.yY:Jt Tryz.prog 105 111 (.agg #[.int .i64 0,.int .u64 0,.int .u64 0,.bool false,.string ⟨#[]⟩]) 5 48:=⟨Tryz.underlying105,by kernel_rfl,rfl⟩
def Afr(s:St)(first:UInt64)(w:World)(e:Ending)(w':World):Prop:=
 Below w.heap.size w w'/\match II s first with
  | none=>e= .returned (.tuple #[.slice none 0 0,.int .i64 5])
  | some l=>LD s l/\∃v,e= .returned (.tuple #[v,.int .i64 0])/\w'.ownsRow w.heap.size 111 5 v l.length (ji l)
def Ai4(s:St)(first:UInt64)(w:World)(g:Nat)(v a:Value)(wr:World):Prop:=
 ∃(acc:List Lk)(at_:UInt64)(f:Nat),a= .int .u64 (at_.toNat:Int)/\Ox s f at_ acc=II s first/\EC acc<f/\EC acc<=g/\LD s acc/\wr.ownsRow w.heap.size 111 5 v acc.length (ji acc)/\Below w.heap.size w wr
theorem Qc(name:UInt64): -9223372036854775808<=Bi name/\Bi name<=9223372036854775807:=by
 have hlt:=name.toNat_lt;unfold Bi;simp only [IntKind.wrap,IntKind.bits,IntKind.signed,Bool.true_and,decide_eq_true_eq,show(2:Int)^(64-1)=9223372036854775808 from rfl,show(2:Int)^64=18446744073709551616 from rfl];constructor<;>split<;>omega
theorem Lh{w w':World}{base n k:Nat}{e:TypeId}{v:Value}{xs:List Value}(h:w.ownsRow base e k v n xs)(hb:Below w.heap.size w w'):w'.ownsRow base e k v n xs:=
 EO h (Kept.of_below (r:=none) hb) (by
  rcases h.2 with⟨h1,_⟩| ⟨g,cap,cur,h1,_⟩
  ·exact .inr (by subst h1;rfl)
  ·exact .inl (by subst h1;exact fun e=>nomatch e))
section
variable{w w':World}{d p L:Nat}{s:St}{F:Nat->Prop}
theorem dW(h:Sys w d p L s F)(first:UInt64):Calls Tryz.prog 40 #[Aw d,Aw p,.int .u64 (first.toNat:Int)] w (Afr s first w):=by
 have HX:=Aa h;have HN:=Aa (VL h);have HP:=Aa h.pos;clear h;go_enter Tryz.func40,Tryz.ntmps40
 go_wp2_with fail
 refine HN.out.mono ?_;rintro e w1⟨rfl,rfl⟩;clear HN
 go_wp2_with fail
 go_loopg [8,9](EC [])(fun g v a wr=>Ai4 s first w g v a wr)
 case atStart=>exact⟨[],first,_,rfl,rfl,by decide,Ad _,LD.nil s,World.ownsRow_nil _ _ _ _,Below.refl _ _⟩
 case round=>
  obtain⟨acc,at_,f,rfl,hgo,hf,hg,hinv,hown,hb⟩:=hrel;obtain⟨f,rfl⟩:∃f',f=f'+1:=⟨f-1,by omega⟩;rw [Ox]at hgo;have HO:=Aa hown;have HB:=Aa hb;have HI:=Aa hinv;have hfew:=hinv.few;clear hown hb hinv;by_cases h0:at_.toNat=0
  ·rw [if_pos h0]at hgo;have t0:((at_.toNat:Int)!=0)=false:=by rw [h0];rfl
   have HG:=Aa hgo;clear hgo h0 hf hg
   go_wp2_with fail
   go_ret2;refine⟨HB.out,?_⟩;rw [<-HG.out];exact⟨HI.out,_,rfl,HO.out⟩
  ·rw [if_neg h0]at hgo;have t0:((at_.toNat:Int)!=0)=true:=by rw [bne_iff_ne];omega
   have ho:=Qc at_;have hwr:IntKind.i64.wrap (at_.toNat:Int)=Bi at_:=rfl;obtain⟨off,hoff⟩:∃off,off=Bi at_:=⟨_,rfl⟩;rw [<-hoff]at hwr ho hgo;have hXr:=HX.out.below HB.out;have QD:=Aa (show Calls Tryz.prog 83 #[Aw p,.int .i64 off] wr _ from by
    obtain⟨tb,hb,n,cT,cH,own,hr, -⟩:=hXr;exact Zg hr.at off ho)
   clear hoff;by_cases hc:D5 s off=1
   ·rw [if_neg (by rw [hc];exact fun h=>h rfl)]at hgo;rw [hc]at QD;obtain⟨hL0,hL1,ok,hn⟩:=HP.out;obtain⟨ho0,ho1,hj,hjL⟩:=Abs ok hn hL1 hc;obtain⟨j,hjd⟩:∃j,j=off.toNat/8:=⟨_,rfl⟩;rw [<-hjd]at hj hjL hgo;have HJ:=Aa hj;have HJd:=Aa hjd;have Aqt:off.toNat/8=j:=hjd.symm;have HJe:=Aa Aqt;have HC:=Aa hc;have Zt:=Aa hgo;have HF:=Aa hf;have HGh:=Aa hg;have HR:=Aa (And.intro ho0 ho1);have Amj:=Aa (fun(W:World)(hW:Below w.heap.size w W)=>iJ (HX.out.below hW) j 8 hjL);rw [<-hj,show((8:Nat):Int)=8 from rfl]at Amj;clear hj hjd Aqt hc hgo hf hg hL0 hL1 ok hn ho0 ho1 hjL hXr
    go_wp2_with fail
    refine QD.out.mono ?_;rintro e w2⟨rfl,hd⟩;have HB2:=Aa (HB.out.trans (hd.below w.heap.size));have Aqu:=hd.below wr.heap.size;have Amk:=Aa Aqu;clear QD hd Aqu
    go_wp2_with fail
    refine(Amj.out w2 HB2.out).mono ?_;rintro e w3⟨v3,rfl,ho3,hb3⟩;obtain⟨A3,c3,rfl,hc3,hr3⟩:=CO ho3;have HB3:=Aa (HB2.out.trans (hb3.mono HB2.out.size));have Aml:=Aa (Amk.out.trans (hb3.mono Amk.out.size));have HDc:=Aa (Abn (wordsAt s.ws j 8) A3 c3 w3 hc3 hr3);clear ho3 hr3 hb3 Amj
    go_wp2_with fail
    refine HDc.out.mono ?_;rintro e w4⟨hb4,XZ⟩;have HB4:=Aa (HB3.out.trans (hb4.mono HB3.out.size));have Aqv:=Aml.out.trans (hb4.mono Aml.out.size);have Ai5:=Aa Aqv;clear hb4 HDc Aqv Aml Amk HB3 HB2;cases hdc:KJ (wordsAt s.ws j 8)with
    | none=>
      have rY:=Zt.out;rw [hdc]at XZ rY;replace XZ:e= .returned (.tuple #[.agg #[.int .u64 0,.int .u64 0,.bool false,.string ⟨#[]⟩],.bool false]):=XZ;subst XZ;have rY:Hid (none=II s first):=Aa rY;clear hdc Zt
      go_wp2_with fail
      go_quiet(fail)
      go_wp2_with fail
      go_ret2;refine⟨(HB4.out.alloc HB4.out.size _).trans ((Dr.one _ _).below _),?_⟩;rw [<-rY.out];rfl
    | some r=>
      have rY:=Zt.out;rw [hdc]at XZ rY;replace XZ:e= .returned (.tuple #[.agg #[.int .u64 (r.stamp.toNat:Int),.int .u64 (r.next.toNat:Int),.bool r.gone,.string r.text],.bool true]):=XZ;subst XZ;have rY:=Aa rY;have HDc:=Aa hdc;clear hdc Zt;obtain⟨W5,kP,hb5,B5⟩:=FB w4 109 [.int .u64 (r.stamp.toNat:Int),.int .u64 (r.next.toNat:Int),.bool r.gone,.string r.text];have jg:=HB4.out.trans (hb5.mono HB4.out.size);have Amm:=Ai5.out.trans (hb5.mono Ai5.out.size);have HLt:Hid (∀g,u8.ownBlock=some g->g<wr.heap.size):=Aa (fun g hg=>(HO.out.lt g hg).2);have hO5:=EO HO.out (Kept.of_below (r:=none) Amm) (by
       rcases HO.out.2 with⟨h1,_⟩| ⟨g,cap,cur,h1,_⟩
       ·exact .inr (by subst h1;rfl)
       ·exact .inl (by subst h1;exact fun e=>nomatch e))
      obtain⟨A8,c8,rfl,hc8,hl8⟩:=jk hO5;obtain⟨y0,y1,y2,y3,_,_,_,_⟩:=C9 B5;have cO:=Aa hO5;have Jy:=Aa jg;have Aqw:=Aa Amm;have yQ:=Aa B5;have hs5:=jg.size;have HW5:=Aa kP;clear hb5 B5 jg Amm hO5 HO kP;obtain⟨n,hn⟩:∃n,n=acc.length:=⟨_,rfl⟩;have HN2:=Aa hn;rw [<-hn]at cO;rw [<-hn]at hfew HLt;rw [<-hn];by_cases hlt:EC acc<=r.stamp.toNat
      ·have HG2:=rY.out
       dsimp only at HG2
       rw [if_pos hlt]at HG2;have HG2:=Aa HG2;have hacc:acc≠[]:=fun e=>by
        subst e;have:=r.stamp.toNat_lt;have h2:(18446744073709551616:Nat)<=r.stamp.toNat:=hlt;omega
       obtain⟨m,hm⟩:∃m,n=m+1:=⟨n-1,by have:acc.length≠0:=(fun e=>hacc (List.eq_nil_of_length_eq_zero e));omega⟩;obtain⟨b,Aqx,rfl,hb8,q0,q1,q2,q3,q4⟩:=hl8.at m (by omega);have hL8:EC acc=acc[m].rc.stamp.toNat:=by
        unfold EC;rw [bT,Af (by omega)];simp only [show acc.length-1=m by omega]
       rw [hL8]at hlt;subst hm;have h0m:decide ((0:Int)<(m:Int)+1)=true:=decide_eq_true (by omega);have h0n:decide (0<m+1)=true:=decide_eq_true (by omega);have hm1:IntKind.i64.wrap ((m:Int)+1-1)=(m:Int):=by rw [show(m:Int)+1-1=(m:Int)by omega];exact IntWalk.i64_in _ (by omega)
       have t5:decide ((acc[m].rc.stamp.toNat:Int)<=(r.stamp.toNat:Int))=true:=decide_eq_true (by omega);have t6:decide (acc[m].rc.stamp.toNat<=r.stamp.toNat)=true:=decide_eq_true hlt;generalize acc[m].rc.stamp=ls at*;clear hL8 hl8 hacc hn hlt q0 q2 q3 q4
       go_wp2_with fail
       rw [<-HW5.out]
       go_quiet(fail)
       go_wp2_with fail
       go_ret2;refine⟨Jy.out.trans ((Dr.one _ _).below _),?_⟩;rw [<-HG2.out];rfl
      ·have VN:Hid (r.stamp.toNat<EC acc):=Aa (QK hlt);have HG2:=rY.out
       dsimp only at HG2
       rw [if_neg hlt]at HG2;have HG2:=Aa HG2;have HI2:=Aa (HI.out.step HR.out HC.out (by rw [HJe.out];exact HDc.out) (QK hlt));cases n with
       | zero=>
         clear hl8 hn
         go_wp2_with fail
         rw [<-HW5.out]
         go_quiet(fail)
         obtain⟨W6,QE⟩:∃W6,W6=W5.drewN nq:=⟨_,rfl⟩;have hd6:Below W5.heap.size W5 W6:=by rw [QE];exact(Dr.one _ _).below _
         have K6:=yQ.out.below hd6 yQ.out.lt;obtain⟨y0,y1,y2,y3,_,_,_,_⟩:=C9 K6;have bz:=Aa (Lh cO.out hd6);have hs6:W6.heap.size=W5.heap.size:=by rw [QE];rfl
         have KO:=Aa (Jy.out.trans (hd6.mono Jy.out.size));have HK6:=Aa K6;have hbs:w.heap.size<=W6.heap.size:=KO.out.size;have HS6:=Aa hs6;rw [<-QE];clear hd6 K6 QE cO Jy yQ Aqw hs6 hlt
         go_wp2_with(at_builtin;refine Eh rfl (.tmp 61) (.tmp 65) 105 rfl Tryz.yY W6 w.heap.size (.slice A8 0 c8) 0 (ji acc) [.int .i64 off,.int .u64 (r.stamp.toNat:Int),.int .u64 (r.next.toNat:Int),.bool r.gone,.string r.text] rfl bz.out rfl W6.heap.size 1 rfl rfl rfl (by decide) (by intro u hu;simp at hu;rcases hu with rfl| rfl| rfl| rfl| rfl<;>rfl) (by omega) (by decide) hbs ?_;intro g7 c7 w7 hO7 hB7 hK7 hg7;have K7:CG w7 w4.heap.size 109 _:=(hK7.2 w4.heap.size HK6.out.lt (fun e=>by have:=HLt.out _ e.symm;have:=Ai5.out.size;omega)).trans HK6.out;obtain⟨z0,z1,z2,z3,_,_,_,_⟩:=C9 K7)
         have HO7:=Aa hO7;have aY:=Aa (KO.out.trans hB7);clear hO7 hB7 hK7 hg7 K7 y0 y1 y2 y3
         go_wp2_with fail
         go_roundg(r.stamp.toNat)
         case measure=>have:=VN.out;have:=HGh.out;omega
         case rel=>exact⟨acc++[⟨off,r⟩],r.next,f,rfl,HG2.out,by rw [Gy];have:=VN.out;have:=HF.out;show r.stamp.toNat<f;omega,by rw [Gy];exact Ad _,HI2.out,by rw [nY,AQ,<-HN2.out];exact HO7.out,aY.out⟩
       | succ m=>
         obtain⟨b,Aqx,rfl,hb8,q0,q1,q2,q3,q4⟩:=hl8.at m (by omega);have hL8:EC acc=acc[m].rc.stamp.toNat:=by
          unfold EC;rw [bT,Af (by omega)];simp only [show acc.length-1=m by omega]
         have h0m:decide ((0:Int)<(m:Int)+1)=true:=decide_eq_true (by omega);have h0n:decide (0<m+1)=true:=decide_eq_true (by omega);have hm1:IntKind.i64.wrap ((m:Int)+1-1)=(m:Int):=by rw [show(m:Int)+1-1=(m:Int)by omega];exact IntWalk.i64_in _ (by omega)
         have t5:decide ((acc[m].rc.stamp.toNat:Int)<=(r.stamp.toNat:Int))=false:=decide_eq_false (by omega);have t6:decide (acc[m].rc.stamp.toNat<=r.stamp.toNat)=false:=decide_eq_false (by omega);generalize acc[m].rc.stamp=ls at*;clear hL8 hl8 hn q0 q2 q3 q4
         go_wp2_with fail
         rw [<-HW5.out]
         go_quiet(fail)
         obtain⟨W6,QE⟩:∃W6,W6=W5.drewN nq:=⟨_,rfl⟩;have hd6:Below W5.heap.size W5 W6:=by rw [QE];exact(Dr.one _ _).below _
         have K6:=yQ.out.below hd6 yQ.out.lt;obtain⟨y0,y1,y2,y3,_,_,_,_⟩:=C9 K6;have bz:=Aa (Lh cO.out hd6);have hs6:W6.heap.size=W5.heap.size:=by rw [QE];rfl
         have KO:=Aa (Jy.out.trans (hd6.mono Jy.out.size));have HK6:=Aa K6;have hbs:w.heap.size<=W6.heap.size:=KO.out.size;have HS6:=Aa hs6;rw [<-QE];clear hd6 K6 QE cO Jy yQ Aqw hs6 hlt
         go_wp2_with(at_builtin;refine Eh rfl (.tmp 61) (.tmp 65) 105 rfl Tryz.yY W6 w.heap.size (.slice (some ⟨b,Aqx,none⟩) (m+1) c8) (m+1) (ji acc) [.int .i64 off,.int .u64 (r.stamp.toNat:Int),.int .u64 (r.next.toNat:Int),.bool r.gone,.string r.text] rfl bz.out rfl W6.heap.size 1 rfl rfl rfl (by decide) (by intro u hu;simp at hu;rcases hu with rfl| rfl| rfl| rfl| rfl<;>rfl) (by omega) (by decide) hbs ?_;intro g7 c7 w7 hO7 hB7 hK7 hg7;have K7:CG w7 w4.heap.size 109 _:=(hK7.2 w4.heap.size HK6.out.lt (fun e=>by have:=HLt.out _ e.symm;have:=Ai5.out.size;omega)).trans HK6.out;obtain⟨z0,z1,z2,z3,_,_,_,_⟩:=C9 K7)
         have HO7:=Aa hO7;have aY:=Aa (KO.out.trans hB7);clear hO7 hB7 hK7 hg7 K7 y0 y1 y2 y3
         go_wp2_with fail
         go_roundg(r.stamp.toNat)
         case measure=>have:=VN.out;have:=HGh.out;omega
         case rel=>exact⟨acc++[⟨off,r⟩],r.next,f,rfl,HG2.out,by rw [Gy];have:=VN.out;have:=HF.out;show r.stamp.toNat<f;omega,by rw [Gy];exact Ad _,HI2.out,by rw [nY,AQ,<-HN2.out];exact HO7.out,aY.out⟩
   ·rw [if_pos hc]at hgo;have HG:=Aa hgo;have t1:(((D5 s off:Nat):Int)!=1)=true:=by rw [bne_iff_ne];omega
    clear hgo hf hg
    go_wp2_with fail
    refine QD.out.mono ?_;rintro e w2⟨rfl,hd⟩;have HB2:=Aa (HB.out.trans (hd.below w.heap.size))
    go_wp2_with fail
    go_ret2;refine⟨HB2.out,?_⟩;rw [<-HG.out];rfl
end
