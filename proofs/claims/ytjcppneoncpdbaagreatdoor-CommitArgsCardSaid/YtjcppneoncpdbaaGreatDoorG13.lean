import Derived.Deep.LoopGhost
import Derived.Test.YtjcppneoncpdbaaGreatDoorG12
namespace Go.Proofs.YtjcppneoncpdbaaGreatDoor
open Go.RowKit
theorem Tryz.linkTyK:RowTyK Tryz.prog 62 91 (.agg #[.int .i64 0,.int .u64 0,.int .u64 0,.bool false,.string ⟨#[]⟩]) 5 48:=⟨Tryz.underlying62,by kernel_rfl,rfl⟩
def ListPost(s:St)(first:UInt64)(w:World)(e:Ending)(w':World):Prop:=
 Below w.heap.size w w'∧match listP s first with
  | none=>e= .returned (.tuple #[.slice none 0 0,.int .i64 5])
  | some l=>ListInv s l∧∃v,e= .returned (.tuple #[v,.int .i64 0])∧w'.ownsRow w.heap.size 91 5 v l.length (lkCs l)
def ListRel(s:St)(first:UInt64)(w:World)(g:Nat)(v a:Value)(wr:World):Prop:=
 ∃(acc:List Lk)(at_:UInt64)(f:Nat),a= .int .u64 (at_.toNat:Int)∧listGo s f at_ acc=listP s first∧lastStamp acc<f∧lastStamp acc≤g∧ListInv s acc∧wr.ownsRow w.heap.size 91 5 v acc.length (lkCs acc)∧Below w.heap.size w wr
theorem offOf_bounds(name:UInt64): -9223372036854775808≤offOf name∧offOf name≤9223372036854775807:=by
 have hlt:=name.toNat_lt
 unfold offOf
 simp only [IntKind.wrap,IntKind.bits,IntKind.signed,Bool.true_and,decide_eq_true_eq,show(2:Int)^(64-1)=9223372036854775808 from rfl,show(2:Int)^64=18446744073709551616 from rfl]
 constructor<;>split<;>omega
theorem own_below5{w w':World}{base n k:Nat}{e:TypeId}{v:Value}{xs:List Value}(h:w.ownsRow base e k v n xs)(hb:Below w.heap.size w w'):w'.ownsRow base e k v n xs:=
 own_stay h (Kept.of_below (r:=none) hb) (by
  rcases h.2 with⟨h1,_⟩| ⟨g,cap,cur,h1,_⟩
  ·exact .inr (by subst h1;rfl)
  ·exact .inl (by subst h1;exact fun e=>nomatch e))
section
variable{w w':World}{d p L:Nat}{s:St}{F:Nat→Prop}
set_option maxHeartbeats 8000000 in
set_option maxRecDepth 100000 in
theorem chainList(h:Sys w d p L s F)(first:UInt64):Calls Tryz.prog 53 #[.pointer (some ⟨d,0,none⟩),.pointer (some ⟨p,0,none⟩),.int .u64 (first.toNat:Int)] w (ListPost s first w):=by
 have HX:=Lib.hid h
 have HN:=Lib.hid (chainNone h)
 have HP:=Lib.hid h.pos
 clear h
 go_enter Tryz.func53,Tryz.ntmps53
 go_wp2_with fail
 refine HN.out.mono ?_
 rintro e w1⟨rfl,rfl⟩
 clear HN
 go_wp2_with fail
 go_loopg [8,9](lastStamp [])(fun g v a wr=>ListRel s first w g v a wr)
 case atStart=>exact⟨[],first,_,rfl,rfl,by decide,Nat.le_refl _,ListInv.nil s,World.ownsRow_nil _ _ _ _,Below.refl _ _⟩
 case round=>
  obtain⟨acc,at_,f,rfl,hgo,hf,hg,hinv,hown,hb⟩:=hrel
  obtain⟨f,rfl⟩:∃f',f=f'+1:=⟨f-1,by omega⟩
  rw [listGo]at hgo
  have HO:=Lib.hid hown
  have HB:=Lib.hid hb
  have HI:=Lib.hid hinv
  have hfew:=hinv.few
  clear hown hb hinv
  by_cases h0:at_.toNat=0
  ·rw [if_pos h0]at hgo
   have t0:((at_.toNat:Int)!=0)=false:=by rw [h0];rfl
   have HG:=Lib.hid hgo
   clear hgo h0 hf hg
   go_wp2_with fail
   go_ret2
   refine⟨HB.out,?_⟩
   rw [←HG.out]
   exact⟨HI.out,_,rfl,HO.out⟩
  ·rw [if_neg h0]at hgo
   have t0:((at_.toNat:Int)!=0)=true:=by rw [bne_iff_ne];omega
   have ho:=offOf_bounds at_
   have hwr:IntKind.i64.wrap (at_.toNat:Int)=offOf at_:=rfl
   obtain⟨off,hoff⟩:∃off,off=offOf at_:=⟨_,rfl⟩
   rw [←hoff]at hwr ho hgo
   have hXr:=HX.out.below HB.out
   have HCl:=Lib.hid (show Calls Tryz.prog 103 #[.pointer (some ⟨p,0,none⟩),.int .i64 off] wr _ from by
    obtain⟨tb,hb,n,cT,cH,own,hr, -⟩:=hXr
    exact class_pool hr.at off ho)
   clear hoff
   by_cases hc:classP s off=1
   ·rw [if_neg (by rw [hc];exact fun h=>h rfl)]at hgo
    rw [hc]at HCl
    obtain⟨hL0,hL1,ok,hn⟩:=HP.out
    obtain⟨ho0,ho1,hj,hjL⟩:=class_one ok hn hL1 hc
    obtain⟨j,hjd⟩:∃j,j=off.toNat/8:=⟨_,rfl⟩
    rw [←hjd]at hj hjL hgo
    have HJ:=Lib.hid hj
    have HJd:=Lib.hid hjd
    have hjd':off.toNat/8=j:=hjd.symm
    have HJe:=Lib.hid hjd'
    have HC:=Lib.hid hc
    have HGo:=Lib.hid hgo
    have HF:=Lib.hid hf
    have HGh:=Lib.hid hg
    have HR:=Lib.hid (And.intro ho0 ho1)
    have HGet:=Lib.hid (fun(W:World)(hW:Below w.heap.size w W)=>sys_get (HX.out.below hW) j 8 hjL)
    rw [←hj,show((8:Nat):Int)=8 from rfl]at HGet
    clear hj hjd hjd' hc hgo hf hg hL0 hL1 ok hn ho0 ho1 hjL hXr
    go_wp2_with fail
    refine HCl.out.mono ?_
    rintro e w2⟨rfl,hd⟩
    have HB2:=Lib.hid (HB.out.trans (hd.below w.heap.size))
    have hbr2:=hd.below wr.heap.size
    have HBr2:=Lib.hid hbr2
    clear HCl hd hbr2
    go_wp2_with fail
    refine(HGet.out w2 HB2.out).mono ?_
    rintro e w3⟨v3,rfl,ho3,hb3⟩
    obtain⟨A3,c3,rfl,hc3,hr3⟩:=rd_of_own ho3
    have HB3:=Lib.hid (HB2.out.trans (hb3.mono HB2.out.size))
    have HBr3:=Lib.hid (HBr2.out.trans (hb3.mono HBr2.out.size))
    have HDc:=Lib.hid (recDecode (wordsAt s.ws j 8) A3 c3 w3 hc3 hr3)
    clear ho3 hr3 hb3 HGet
    go_wp2_with fail
    refine HDc.out.mono ?_
    rintro e w4⟨hb4,hp4⟩
    have HB4:=Lib.hid (HB3.out.trans (hb4.mono HB3.out.size))
    have hbr4:=HBr3.out.trans (hb4.mono HBr3.out.size)
    have HBr4:=Lib.hid hbr4
    clear hb4 HDc hbr4 HBr3 HBr2 HB3 HB2
    cases hdc:decRc (wordsAt s.ws j 8)with
    | none=>
      have HGn:=HGo.out
      rw [hdc]at hp4 HGn
      replace hp4:e= .returned (.tuple #[.agg #[.int .u64 0,.int .u64 0,.bool false,.string ⟨#[]⟩],.bool false]):=hp4
      subst hp4
      have HGn:Hid (none=listP s first):=Lib.hid HGn
      clear hdc HGo
      go_wp2_with fail
      go_quiet(fail)
      go_wp2_with fail
      go_ret2
      refine⟨(HB4.out.alloc HB4.out.size _).trans ((Dr.one _ _).below _),?_⟩
      rw [←HGn.out]
      rfl
    | some r=>
      have HGn:=HGo.out
      rw [hdc]at hp4 HGn
      replace hp4:e= .returned (.tuple #[.agg #[.int .u64 (r.stamp.toNat:Int),.int .u64 (r.next.toNat:Int),.bool r.gone,.string r.text],.bool true]):=hp4
      subst hp4
      have HGn:=Lib.hid HGn
      have HDc:=Lib.hid hdc
      clear hdc HGo
      obtain⟨W5,hW5⟩:∃W5,W5=w4.alloc (.cells #[.int .u64 (r.stamp.toNat:Int),.int .u64 (r.next.toNat:Int),.bool r.gone,.string r.text] 89):=⟨_,rfl⟩
      have B5:Blk W5 w4.heap.size 89 [.int .u64 (r.stamp.toNat:Int),.int .u64 (r.next.toNat:Int),.bool r.gone,.string r.text]:=hW5▸heap_alloc_new _ _
      have hb5:Below w4.heap.size w4 W5:=hW5▸(Below.refl _ _).alloc (Nat.le_refl _) _
      have hbw5:=HB4.out.trans (hb5.mono HB4.out.size)
      have hbr5:=HBr4.out.trans (hb5.mono HBr4.out.size)
      have HLt:Hid (∀g,u8.ownBlock=some g→g<wr.heap.size):=Lib.hid (fun g hg=>(HO.out.lt g hg).2)
      have hO5:=own_stay HO.out (Kept.of_below (r:=none) hbr5) (by
       rcases HO.out.2 with⟨h1,_⟩| ⟨g,cap,cur,h1,_⟩
       ·exact .inr (by subst h1;rfl)
       ·exact .inl (by subst h1;exact fun e=>nomatch e))
      obtain⟨A8,c8,rfl,hc8,hl8⟩:=own_lkr hO5
      obtain⟨y0,y1,y2,y3,_,_,_,_⟩:=blk4' B5
      have HO5:=Lib.hid hO5
      have HB5:=Lib.hid hbw5
      have HBr5:=Lib.hid hbr5
      have HK5:=Lib.hid B5
      have hs5:=hbw5.size
      have HW5:=Lib.hid hW5
      clear hb5 B5 hbw5 hbr5 hO5 HO hW5
      obtain⟨n,hn⟩:∃n,n=acc.length:=⟨_,rfl⟩
      have HN2:=Lib.hid hn
      rw [←hn]at HO5
      rw [←hn]at hfew HLt
      rw [←hn]
      by_cases hlt:lastStamp acc≤r.stamp.toNat
      ·have HG2:=HGn.out
       dsimp only at HG2
       rw [if_pos hlt]at HG2
       have HG2:=Lib.hid HG2
       have hacc:acc≠[]:=fun e=>by
        subst e
        have:=r.stamp.toNat_lt
        have h2:(18446744073709551616:Nat)≤r.stamp.toNat:=hlt
        omega
       obtain⟨m,hm⟩:∃m,n=m+1:=⟨n-1,by have:acc.length≠0:=(fun e=>hacc (List.eq_nil_of_length_eq_zero e));omega⟩
       obtain⟨b,off8,rfl,hb8,q0,q1,q2,q3,q4⟩:=hl8.at m (by omega)
       have hL8:lastStamp acc=acc[m].rc.stamp.toNat:=by
        unfold lastStamp
        rw [List.getLast?_eq_getElem?,List.getElem?_eq_getElem (by omega)]
        simp only [show acc.length-1=m by omega]
       rw [hL8]at hlt
       subst hm
       have h0m:decide ((0:Int)<(m:Int)+1)=true:=decide_eq_true (by omega)
       have h0n:decide (0<m+1)=true:=decide_eq_true (by omega)
       have hm1:IntKind.i64.wrap ((m:Int)+1-1)=(m:Int):=by rw [show(m:Int)+1-1=(m:Int)by omega];exact IntWalk.i64_in _ (by omega)
       have t5:decide ((acc[m].rc.stamp.toNat:Int)≤(r.stamp.toNat:Int))=true:=decide_eq_true (by omega)
       have t6:decide (acc[m].rc.stamp.toNat≤r.stamp.toNat)=true:=decide_eq_true hlt
       generalize acc[m].rc.stamp=ls at*
       clear hL8 hl8 hacc hn hlt q0 q2 q3 q4
       go_wp2_with fail
       rw [←HW5.out]
       go_quiet(fail)
       go_wp2_with fail
       go_ret2
       refine⟨HB5.out.trans ((Dr.one _ _).below _),?_⟩
       rw [←HG2.out]
       rfl
      ·have HLs:Hid (r.stamp.toNat<lastStamp acc):=Lib.hid (Nat.lt_of_not_le hlt)
       have HG2:=HGn.out
       dsimp only at HG2
       rw [if_neg hlt]at HG2
       have HG2:=Lib.hid HG2
       have HI2:=Lib.hid (HI.out.step HR.out HC.out (by rw [HJe.out];exact HDc.out) (Nat.lt_of_not_le hlt))
       cases n with
       | zero=>
         clear hl8 hn
         go_wp2_with fail
         rw [←HW5.out]
         go_quiet(fail)
         obtain⟨W6,hW6⟩:∃W6,W6=W5.drewN nq:=⟨_,rfl⟩
         have hd6:Below W5.heap.size W5 W6:=by rw [hW6];exact(Dr.one _ _).below _
         have K6:=HK5.out.below hd6 HK5.out.lt
         obtain⟨y0,y1,y2,y3,_,_,_,_⟩:=blk4' K6
         have HO6:=Lib.hid (own_below5 HO5.out hd6)
         have hs6:W6.heap.size=W5.heap.size:=by rw [hW6];rfl
         have HB6:=Lib.hid (HB5.out.trans (hd6.mono HB5.out.size))
         have HK6:=Lib.hid K6
         have hbs:w.heap.size≤W6.heap.size:=HB6.out.size
         have HS6:=Lib.hid hs6
         rw [←hW6]
         clear hd6 K6 hW6 HO5 HB5 HK5 HBr5 hs6 hlt
         go_wp2_with(at_builtin;refine wpList_app_one rfl (.tmp 61) (.tmp 65) 62 rfl Tryz.linkTyK W6 w.heap.size (.slice A8 0 c8) 0 (lkCs acc) [.int .i64 off,.int .u64 (r.stamp.toNat:Int),.int .u64 (r.next.toNat:Int),.bool r.gone,.string r.text] rfl HO6.out rfl W6.heap.size 1 rfl rfl rfl (by decide) (by intro u hu;simp at hu;rcases hu with rfl| rfl| rfl| rfl| rfl<;>rfl) (by omega) (by decide) hbs ?_;intro g7 c7 w7 hO7 hB7 hK7 hg7;have K7:Blk w7 w4.heap.size 89 _:=(hK7.2 w4.heap.size HK6.out.lt (fun e=>by have:=HLt.out _ e.symm;have:=HBr4.out.size;omega)).trans HK6.out;obtain⟨z0,z1,z2,z3,_,_,_,_⟩:=blk4' K7)
         have HO7:=Lib.hid hO7
         have HB7:=Lib.hid (HB6.out.trans hB7)
         clear hO7 hB7 hK7 hg7 K7 y0 y1 y2 y3
         go_wp2_with fail
         go_roundg(r.stamp.toNat)
         case measure=>have:=HLs.out;have:=HGh.out;omega
         case rel=>exact⟨acc++[⟨off,r⟩],r.next,f,rfl,HG2.out,by rw [lastStamp_snoc];have:=HLs.out;have:=HF.out;show r.stamp.toNat<f;omega,by rw [lastStamp_snoc];exact Nat.le_refl _,HI2.out,by rw [lkCs_app,List.length_append,←HN2.out];exact HO7.out,HB7.out⟩
       | succ m=>
         obtain⟨b,off8,rfl,hb8,q0,q1,q2,q3,q4⟩:=hl8.at m (by omega)
         have hL8:lastStamp acc=acc[m].rc.stamp.toNat:=by
          unfold lastStamp
          rw [List.getLast?_eq_getElem?,List.getElem?_eq_getElem (by omega)]
          simp only [show acc.length-1=m by omega]
         have h0m:decide ((0:Int)<(m:Int)+1)=true:=decide_eq_true (by omega)
         have h0n:decide (0<m+1)=true:=decide_eq_true (by omega)
         have hm1:IntKind.i64.wrap ((m:Int)+1-1)=(m:Int):=by rw [show(m:Int)+1-1=(m:Int)by omega];exact IntWalk.i64_in _ (by omega)
         have t5:decide ((acc[m].rc.stamp.toNat:Int)≤(r.stamp.toNat:Int))=false:=decide_eq_false (by omega)
         have t6:decide (acc[m].rc.stamp.toNat≤r.stamp.toNat)=false:=decide_eq_false (by omega)
         generalize acc[m].rc.stamp=ls at*
         clear hL8 hl8 hn q0 q2 q3 q4
         go_wp2_with fail
         rw [←HW5.out]
         go_quiet(fail)
         obtain⟨W6,hW6⟩:∃W6,W6=W5.drewN nq:=⟨_,rfl⟩
         have hd6:Below W5.heap.size W5 W6:=by rw [hW6];exact(Dr.one _ _).below _
         have K6:=HK5.out.below hd6 HK5.out.lt
         obtain⟨y0,y1,y2,y3,_,_,_,_⟩:=blk4' K6
         have HO6:=Lib.hid (own_below5 HO5.out hd6)
         have hs6:W6.heap.size=W5.heap.size:=by rw [hW6];rfl
         have HB6:=Lib.hid (HB5.out.trans (hd6.mono HB5.out.size))
         have HK6:=Lib.hid K6
         have hbs:w.heap.size≤W6.heap.size:=HB6.out.size
         have HS6:=Lib.hid hs6
         rw [←hW6]
         clear hd6 K6 hW6 HO5 HB5 HK5 HBr5 hs6 hlt
         go_wp2_with(at_builtin;refine wpList_app_one rfl (.tmp 61) (.tmp 65) 62 rfl Tryz.linkTyK W6 w.heap.size (.slice (some ⟨b,off8,none⟩) (m+1) c8) (m+1) (lkCs acc) [.int .i64 off,.int .u64 (r.stamp.toNat:Int),.int .u64 (r.next.toNat:Int),.bool r.gone,.string r.text] rfl HO6.out rfl W6.heap.size 1 rfl rfl rfl (by decide) (by intro u hu;simp at hu;rcases hu with rfl| rfl| rfl| rfl| rfl<;>rfl) (by omega) (by decide) hbs ?_;intro g7 c7 w7 hO7 hB7 hK7 hg7;have K7:Blk w7 w4.heap.size 89 _:=(hK7.2 w4.heap.size HK6.out.lt (fun e=>by have:=HLt.out _ e.symm;have:=HBr4.out.size;omega)).trans HK6.out;obtain⟨z0,z1,z2,z3,_,_,_,_⟩:=blk4' K7)
         have HO7:=Lib.hid hO7
         have HB7:=Lib.hid (HB6.out.trans hB7)
         clear hO7 hB7 hK7 hg7 K7 y0 y1 y2 y3
         go_wp2_with fail
         go_roundg(r.stamp.toNat)
         case measure=>have:=HLs.out;have:=HGh.out;omega
         case rel=>exact⟨acc++[⟨off,r⟩],r.next,f,rfl,HG2.out,by rw [lastStamp_snoc];have:=HLs.out;have:=HF.out;show r.stamp.toNat<f;omega,by rw [lastStamp_snoc];exact Nat.le_refl _,HI2.out,by rw [lkCs_app,List.length_append,←HN2.out];exact HO7.out,HB7.out⟩
   ·rw [if_pos hc]at hgo
    have HG:=Lib.hid hgo
    have t1:(((classP s off:Nat):Int)!=1)=true:=by rw [bne_iff_ne];omega
    clear hgo hf hg
    go_wp2_with fail
    refine HCl.out.mono ?_
    rintro e w2⟨rfl,hd⟩
    have HB2:=Lib.hid (HB.out.trans (hd.below w.heap.size))
    go_wp2_with fail
    go_ret2
    refine⟨HB2.out,?_⟩
    rw [←HG.out]
    rfl
end
theorem wr_at{w:World}{A:Option Addr}{s:List Wr}(h:Rd w A (s.length*3) (wrCs s))(k:Nat)(hk:k<s.length):∃b off,A=some ⟨b,off,none⟩∧b<w.heap.size∧w.cell? ⟨b,off+k*3,none⟩=some (.string s[k].key)∧
 w.cell? ⟨b,off+k*3+1,none⟩=some (.string s[k].text)∧w.cell? ⟨b,off+k*3+2,none⟩=some (.bool s[k].gone):=by
 obtain⟨b,off,rfl,hb,hc⟩:=h.2 (by omega)
 have hf:=flat_get wrC 3 (fun _=>rfl) s k
 refine⟨b,off,rfl,hb,?_,?_,?_⟩
 ·have:=hc (k*3) (by omega)
  rw [this];exact hf 0 hk (by decide)
 ·have:=hc (k*3+1) (by omega)
  rw [Nat.add_assoc,this];exact hf 1 hk (by decide)
 ·have:=hc (k*3+2) (by omega)
  rw [Nat.add_assoc,this];exact hf 2 hk (by decide)
def shortWr(x:Wr):Bool:=decide (x.key.size≤100)&&decide (x.text.size≤100)
def fewW(l:List Wr):Bool:=l.all shortWr&&decide (l.length≤60)
theorem fewW_out{l:List Wr}(h:fewW l=true):l.length≤60∧∀x∈l,x.key.size≤100∧x.text.size≤100:=by
 unfold fewW at h
 rw [Bool.and_eq_true,List.all_eq_true]at h
 refine⟨of_decide_eq_true h.2,fun x hx=> ?_⟩
 have:=h.1 x hx
 unfold shortWr at this
 rw [Bool.and_eq_true]at this
 exact⟨of_decide_eq_true this.1,of_decide_eq_true this.2⟩
set_option maxHeartbeats 4000000 in
set_option maxRecDepth 100000 in
theorem few_writes(l:List Wr)(A:Option Addr)(c:Nat)(w:World)(hl:l.length≤9223372036854775807)(h:Rd w A (l.length*3) (wrCs l)):Calls Tryz.prog 9 #[.slice A l.length c] w fun e w'=>e= .returned (.bool (fewW l))∧Below w.heap.size w w':=by
 have HR:=Lib.hid h
 clear h
 go_enter Tryz.func9,Tryz.ntmps9
 go_wp2_with fail
 go_loopw [7](fun i wr=>∃k:Nat,k≤l.length∧i= .int .i64 (k:Nat)∧(∀j(hj:j<l.length),j<k→shortWr l[j]=true)∧Below w.heap.size w wr)(fun i _=>l.length- (intOf i).toNat)
 case atStart=>exact⟨0,Nat.zero_le _,rfl,fun j _ h=>absurd h (by omega),Below.refl _ _⟩
 case round=>
  obtain⟨k,hkl,rfl,hall,hb⟩:=hrel
  have HB:=Lib.hid hb
  have HS:=Lib.hid hall
  clear hb hall
  by_cases hlt:k<l.length
  ·have hx1:(k:Int)<(l.length:Int):=by omega
   have hx2:decide ((k:Int)<(l.length:Int))=true:=decide_eq_true hx1
   have hx5:decide (k<l.length)=true:=decide_eq_true hlt
   obtain⟨b,off,rfl,hbw,q0,q1,q2⟩:=wr_at (Rd.below HR.out HB.out) k hlt
   have hwk:IntKind.i64.wrap ((k:Int)+1)=(k:Int)+1:=IntWalk.i64_in _ (by omega)
   have HF:Hid (shortWr l[k]=false→fewW l=false):=Lib.hid (fun h=>by
    unfold fewW
    rw [Bool.and_eq_false_iff]
    exact .inl (by rw [List.all_eq_false];exact⟨_,List.getElem_mem hlt,by rw [h];decide⟩))
   have HN:Hid (shortWr l[k]=true→∀j(hj:j<l.length),j<k+1→shortWr l[j]=true):=Lib.hid (fun h j hj hjk=>by
    by_cases e:j=k
    ·subst e;exact h
    ·exact HS.out j hj (by omega))
   have hsw:shortWr l[k]=(decide (l[k].key.size≤100)&&decide (l[k].text.size≤100)):=rfl
   generalize l[k]=x at*
   obtain⟨W,hW⟩:∃W,W=wr.alloc (.cells #[.string x.key,.string x.text,.bool x.gone] 37):=⟨_,rfl⟩
   have HB2:=Lib.hid (HB.out.trans ((show Below wr.heap.size wr W from hW▸(Below.refl _ _).alloc (Nat.le_refl _) _).mono HB.out.size))
   have HW:=Lib.hid hW
   clear hW
   by_cases h1:100<x.key.size
   ·have t1:decide ((100:Int)<(x.key.size:Int))=true:=decide_eq_true (by omega)
    have HF':=Lib.hid (HF.out (by rw [hsw,decide_eq_false (by omega)];rfl))
    clear HF HN hsw
    go_wp2_with fail
    go_ret
    exact⟨by rw [HF'.out];rfl,HW.out▸HB2.out⟩
   ·have t1:decide ((100:Int)<(x.key.size:Int))=false:=decide_eq_false (by omega)
    by_cases h2:100<x.text.size
    ·have t2:decide ((100:Int)<(x.text.size:Int))=true:=decide_eq_true (by omega)
     have HF':=Lib.hid (HF.out (by rw [hsw,decide_eq_false (by omega:¬x.text.size≤100),Bool.and_false]))
     clear HF HN hsw
     go_wp2_with fail
     go_ret
     exact⟨by rw [HF'.out];rfl,HW.out▸HB2.out⟩
    ·have t2:decide ((100:Int)<(x.text.size:Int))=false:=decide_eq_false (by omega)
     have HN':=Lib.hid (HN.out (by rw [hsw,decide_eq_true (by omega),decide_eq_true (by omega)];rfl))
     clear HF HN hsw
     go_wp2_with fail
     go_roundw
     case rel=>exact⟨k+1,by omega,by go_num,HN'.out,HW.out▸HB2.out⟩
     case measure=>simp [intOf];omega
  ·have hx1:decide ((k:Int)<(l.length:Int))=false:=decide_eq_false (by omega)
   have hx5:decide (k<l.length)=false:=decide_eq_false hlt
   have HF:Hid (fewW l=decide ((l.length:Int)≤60)):=Lib.hid (by
    unfold fewW
    rw [List.all_eq_true.2 (fun x hx=>by
     obtain⟨j,hj,rfl⟩:=List.getElem_of_mem hx
     exact HS.out j hj (by omega)),Bool.true_and]
    rw [Bool.eq_iff_iff,decide_eq_true_iff,decide_eq_true_iff];omega)
   clear HS
   by_cases h60:(l.length:Int)≤60
   ·have t1:decide ((l.length:Int)≤60)=true:=decide_eq_true h60
    rw [t1]at HF
    go_wp2_with fail
    go_ret
    exact⟨by rw [HF.out];rfl,HB.out⟩
   ·have t1:decide ((l.length:Int)≤60)=false:=decide_eq_false h60
    rw [t1]at HF
    go_wp2_with fail
    go_ret
    exact⟨by rw [HF.out];rfl,HB.out⟩
end Go.Proofs.YtjcppneoncpdbaaGreatDoor
