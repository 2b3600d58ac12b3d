import Derived.Deep.DeepCutAuto
import Derived.Deep.RegionHeldLaw
import Derived.Test.YtkimaejoeapmnaaGreatDoorG26
set_option maxHeartbeats 32000000
set_option maxRecDepth 100000
open Nat renaming le_refl->Ad,lt_of_lt_of_le->Cf,le_trans->Bg
open Array renaming getElem?_eq_some_iff->AB
open List renaming getElem?_eq_getElem->Af,getElem_mem->BM,mem_singleton->BC,length_append->AQ,mem_append->AL,map_append->Dq,getElem_toArray->Ap,getElem_cons_zero->Ag,setIfInBounds_toArray->Ae,set_cons_zero->Am,set_cons_succ->Aq,getElem_cons_succ->Ah
open UInt64 renaming toNat_inj->Eo
open Go.Lib renaming hid->Aa
namespace Go.Proofs.YtkimaejoeapmnaaGreatDoor
open Go.RowKit
theorem jR{w w':World}{base n k:Nat}{e:TypeId}{v:Value}{xs:List Value}(h:w.ownsRow base e k v n xs)(hb:Below w.heap.size w w'):w'.ownsRow base e k v n xs:=
 EO h (Kept.of_below (r:=none) hb) (by
  rcases h.2 with⟨h1,_⟩| ⟨g,cap,cur,h1,_⟩
  ·exact .inr (by subst h1;rfl)
  ·exact .inl (by subst h1;exact fun e=>nomatch e))
theorem Aj0{w:World}{base k n:Nat}{e:TypeId}{v:Value}{xs:List Value}(h:w.ownsRow base e k v n xs):∃A c,v= .slice A n c/\n<=c/\Rd w A (n*k) xs:=by
 rcases h.2 with⟨h1,h2⟩| ⟨g,cap,cur,h1,h2,h3,h4,h5,h6,h7⟩
 ·subst h2;exact⟨none,0,h1,Ad _,h.1,fun hn=>by omega⟩
 ·refine⟨_,_,h1,h4,h.1,fun hn=>⟨g,0,rfl,(AB.1 h3).1,fun j hj=> ?_⟩⟩;rw [cell_of_row w g _ cur _ (0,0) h3,<-h7,List.getElem?_take,if_pos (by omega)];simp
theorem Ef{P:Program}{ops:Array Oper}{Q:Exit->Act->World->Prop}{md:Region.Mode}{S:World->Prop}(i:Nat)(v:Value){oi:Oper}{fuel:Nat}{listed:Array Bool}{a:Act}{w:World}(hS:S w)(h:wpAnyH P md ops Q S fuel (listed.setIfInBounds i true) (a.put oi.dst v) w)(hi:ops[i]? =some oi:=by rfl)
 (hs:(Region.noSelect ops&&(Region.free md ops listed i&&(Region.ready md ops listed).contains i))=true:=by kernel_rfl)(hQ:∀c a w,Q (.panic c) (a.put oi.dst v) w->Q (.panic c) a w:=by exact fun _ _ _ h=>h)(hg:Region.wanted oi (yielded ops a.tmps)=true:=by rfl)
 (hy:∀w,S w->(execOp a.eval oi).run P w= .ok (.value v) w:=by intro w hSw;clear hSw;go_simp):wpAnyH P md ops Q S (fuel+1) listed a w:=by
 rw [Bool.and_eq_true,Bool.and_eq_true]at hs;exact wpAnyH_take hi hs.1 hs.2.1 hs.2.2 hQ (.inl ⟨hg,hy⟩) hS h
theorem jS{w:World}{base n k:Nat}{v:Value}{e:TypeId}{xs:List Value}(h:w.ownsRow base e k v n xs):∀g,v.ownBlock=some g->base<=g/\g<w.heap.size:=fun g eg=>by
 rcases h.2 with⟨h1,_⟩| ⟨g',cap,cur,h1,h2,h3,_⟩
 ·rw [h1]at eg;cases eg
 ·rw [h1]at eg;injection eg with eg
  rw [<-eg];exact⟨h2,(AB.1 h3).1⟩
theorem FU.touch{w w':World}{base jb x d p L:Nat}{j:Jm}{G H:Nat->Prop}(h:FU w base jb x d p L j G)(k:Touch H w w')(hH:∀b,H b->¬G b)(hx:¬H x)(hc1:¬H 0)(hc2:¬H 1):FU w' base jb x d p L j G:=by
 obtain⟨F,v,hj,hG⟩:=h;exact⟨F,v,⟨⟨hj.ix.sys.keep k (fun c hc hh=>hH c hh ((hG c).2 (.inl hc))) hc1 hc2,hj.ix.box.touch k hx,hj.ix.out⟩,hj.box.touch k (fun hh=>hH _ hh ((hG _).2 (.inr (.inl rfl)))),H6 hj.row k (fun g hg hh=>hH _ hh ((hG g).2 (.inr (.inr hg)))),hj.fj,hj.bj,hj.bx,hj.bt,hj.mj,hj.mF,hj.mb⟩,hG⟩
theorem FU.base{w:World}{base jb x d p L:Nat}{j:Jm}{G:Nat->Prop}(h:FU w base jb x d p L j G):x<w.heap.size/\0<w.heap.size/\1<w.heap.size:=by
 obtain⟨F,v,hj,hG⟩:=h;have:=hj.bx;have:=hj.bt;have:=hj.bj;have:=hj.box.lt;omega
structure Agn(w:World)(G:Nat->Prop)(g:Nat)(way:List Pl):Prop where
 lt:g<w.heap.size
 out:¬G g
 at_:∀i(hi:i<way.length),∃a b c' d,(∀j u,[a,b,c',d,.int .i64 way[i].off,.int .u8 (way[i].label.toNat:Int),.int .i64 way[i].word][j]? =some u->w.cell? ⟨g,i*7+j,none⟩=some u)/\Zx w G a b c' d way[i].nd
def UpB(pl:Pl):Bool:=(pl.nd.val.toNat==0)&&(pl.nd.kids.length==1)
theorem xy{way:List Pl}{a:Nat}{old:List Int}(h:a+1<way.length)(hu:UpB way[a]=true):Hw way (a+1) old=Hw way a (old++[way[a].off]):=by
 unfold UpB at hu;rw [Bool.and_eq_true,beq_iff_eq,beq_iff_eq]at hu;rw [Hw,Af h,Af (by omega:a<way.length)];simp only;rw [if_pos ⟨Eo.1 (by simpa using hu.1),hu.2⟩]
theorem jT{way:List Pl}{a:Nat}{old:List Int}(h:a+1<way.length)(hu:UpB way[a]=false):Hw way (a+1) old=(a+1,old):=by
 unfold UpB at hu;rw [Hw,Af h,Af (by omega:a<way.length)];simp only;rw [if_neg (fun hh=>by
  rw [hh.1,hh.2]at hu;simp at hu)]
theorem fK{j:Jm}{way:List Pl}{n:Nat}{last:Pl}(hn:way.length=n+1)(hl:way[n]'(by omega)=last):O4 j way=match Hw way n [last.off]with
 | (0,old)=>Fa j 0 72 0 old
 | (a+1,old)=>match way[a]?,way[a+1]? with
   | some up,some at_=>match Jr up.nd.labels at_.label with
     | some i=>if Ci up.nd then match Ec j (V5 up.nd i)with
      | (j1,name,e)=>Fa j1 e up.word name (old++[up.off])
       else(j.s,5)
     | none=>(j.s,5)
   | _,_=>(j.s,5):=by
 have e1:way.getLast? =some last:=by rw [List.getLast?_eq_getElem?,hn,Af (by omega)];exact congrArg some hl
 unfold O4;rw [e1,hn];rfl
def PrunePost(r:Ms×Int)(base jb x d p L:Nat)(G:Nat->Prop)(w:World)(e:Ending)(w':World):Prop:=
 e= .returned (.int .i64 r.2)/\∃j' G',j'.s=r.1/\FU w' base jb x d p L j' G'/\AO G G' w w'
section
variable{w:World}{base jb x d p L:Nat}{j:Jm}{G:Nat->Prop}
theorem Acv(h:FU w base jb x d p L j G)(way:List Pl)(g cv:Nat)(h0:0<way.length)(hwl:way.length<=40)(hpl:∀pl∈way,Abm L pl)(hL:L<=1024)(hat:Agn w G g way)(hm:j.made.length<=100):
 Calls Tryz.prog 112 #[Aw jb,.slice (some ⟨g,0,none⟩) way.length cv] w (PrunePost (O4 j way) base jb x d p L G w):=by
 have HJ:=Aa h;have HW:=Aa hat;have o5:=Aa hpl;obtain⟨n,hn⟩:∃n,way.length=n+1:=⟨way.length-1,by omega⟩;obtain⟨last,hla⟩:∃last,way[n]'(by omega)=last:=⟨_,rfl⟩;have HLa:Hid (∀h,way[n]'h=last):=Aa (fun _=>hla);obtain⟨R,hR⟩:∃R,Hw way n [last.off]=R:=⟨_,rfl⟩;have HR:=Aa hR;have hob:∀i(hi:i<way.length), -9223372036854775808<=way[i].off/\way[i].off<=9223372036854775807:=fun i hi=>by
  obtain⟨o,ho,hol⟩:=(o5.out way[i] (BM hi)).off;rw [ho];omega
 have HOb:=Aa hob;obtain⟨a0,b0,c0,d0,hc0, -⟩:=hat.at_ n (by omega);have z4:=hc0 4 _ rfl;rw [show way[n]'(by omega)=last from hla]at z4;obtain⟨nl,hnl⟩:∃nl,nl=way.length:=⟨_,rfl⟩;have HN:=Aa hn;have pW:=Aa hnl;have hwn:IntKind.i64.wrap ((nl:Int) -1)=(n:Int):=(wrap64 _ (by omega) (by omega)).trans (by omega);have hx1:decide ((n:Int)<(nl:Int))=true:=decide_eq_true (by omega);have hx2:n<nl:=by omega
 have hx3:(n:Int)<(nl:Int):=by omega
 obtain⟨W1,hW1,hb1,B1⟩:=FB w 3 [.int .i64 last.off];have ho1:W1.ownsRow w.heap.size 3 1 (.slice (some ⟨w.heap.size,0,none⟩) 1 1) 1 [.int .i64 last.off]:=by
  rw [hW1];exact World.ownsRow_lit w #[.int .i64 last.off] 1 (Ad _) (by decide) rfl
 have HW1:=Aa hW1;have HB1:=Aa hb1;have HO1:=Aa ho1;clear hb1 ho1 B1 hW1 hla hR hob hc0 h hat hpl;rw [<-hnl];clear hn hnl;go_enter Tryz.func112,Tryz.ntmps112
 go_wp2_with fail
 go_loopw [5,6](fun i u wr=>∃(a:Nat)(ol:List Int),i= .int .i64 (a:Nat)/\a<way.length/\ol.length+a=way.length/\Hw way a ol=R/\(∀o∈ol, -9223372036854775808<=o/\o<=9223372036854775807)/\wr.ownsRow w.heap.size 3 1 u ol.length (ol.map zv)/\Below w.heap.size w wr)(fun i _ _=>(intOf i).toNat)
 case atStart=>
  have:=HN.out;exact⟨n,[last.off],rfl,by omega,by simp;omega,HR.out,fun o ho=>by rw [BC]at ho;subst ho;rw [<-HLa.out (by omega)];exact HOb.out n (by omega),HW1.out▸HO1.out,HW1.out▸HB1.out⟩
 case round=>
  clear hwn hx1 hx2 hx3 z4;obtain⟨a,ol,rfl,hal,Awk,hgo,Ars,hown,hb⟩:=hrel;have Zt:=Aa hgo;have HOs:=Aa Ars;have HO:=Aa hown;have HB:=Aa hb;clear hgo Ars hown hb;by_cases ha0:a=0
  ·have t1:decide ((0:Int)<(a:Int))=false:=decide_eq_false (by omega);have t2:((a:Int)==0)=true:=by rw [beq_iff_eq];omega
   have hR0:R=(0,ol):=by have:=Zt.out;rw [ha0]at this;exact this.symm
   have HP:Hid (O4 j way=Fa j 0 72 0 ol):=Aa (by rw [fK HN.out (HLa.out (by have:=HN.out;omega)),HR.out,hR0]);obtain⟨A6,c6,rfl,hc6,XD⟩:=Aj0 HO.out;have hO:IK wr G A6 ol.length (ol.map zv):=⟨by rw [Nat.mul_one]at XD;exact XD,fun _ q eq hg=>by
    subst eq;have h1:=(HO.out.lt q.block rfl).1;have h2:=HJ.out.lt _ hg;omega⟩
   have hL1:16<=L:=by
    obtain⟨_,_,hjr,_⟩:=HJ.out;obtain⟨_,_,ok,_⟩:=hjr.ix.L0;have:=ok.fits;have:=ok.BI;omega
   have hfin:Calls Tryz.prog 115 #[Aw jb,.int .i64 0,.int .i64 72,.int .u64 0,.slice A6 ol.length c6] wr (Qg (Fa j 0 72 0 ol) base jb x d p L j G wr):=
    Qh (HJ.out.below HB.out) 0 72 9 rfl (by omega) 0 A6 c6 ol hO HOs.out (by omega) (by omega)
   have HFin:=Aa hfin;clear XD hO hfin hR0
   go_wp2_with fail
   refine HFin.out.mono ?_;rintro e w8⟨rfl,G8,hj8,VO⟩;have HD:=Aa (And.intro hj8 ((AO.of_below (F:=G) HB.out).trans VO));clear hj8 VO HFin
   go_wp2_with fail
   go_ret;refine⟨by rw [HP.out];rfl,_,G8,?_,HD.out.1,HD.out.2⟩;rw [HP.out]
  ·obtain⟨m,hma⟩:∃m,a=m+1:=⟨a-1,by omega⟩;have t1:decide ((0:Int)<(a:Int))=true:=decide_eq_true (by omega);have hwm:IntKind.i64.wrap ((a:Int) -1)=(m:Int):=(wrap64 _ (by omega) (by omega)).trans (by omega);have hml:m<way.length:=by omega
   have hx2:m<nl:=by have:=pW.out;omega
   have hx3:(m:Int)<(nl:Int):=by omega
   have hx1:decide ((m:Int)<(nl:Int))=true:=decide_eq_true hx3;obtain⟨up,hup⟩:∃up,way[m]=up:=⟨_,rfl⟩;obtain⟨a1,b1,c1,d1,hc1,hnd1⟩:=HW.out.at_ m hml;rw [hup]at hc1 hnd1;obtain⟨A1,p1,A2,p2,A3,p3,rfl,rfl,rfl,rfl,hpc,o1,o2,o3⟩:=hnd1;have hcw:∀j u,_->wr.cell? ⟨g,m*7+j,none⟩=some u:=fun j u hj=>(HB.out.cell (p:=⟨g,m*7+j,none⟩) HW.out.lt).trans (hc1 j u hj)
   have z1:=hcw 1 _ rfl;have z3:=hcw 3 _ rfl;have z4:=hcw 4 _ rfl;have HOm:=Aa (HOb.out m hml);rw [hup]at HOm;have HUp:=Aa hup;cases hub:UpB up with
   | true=>
     have Anf:=hub;unfold UpB at Anf;rw [Bool.and_eq_true,beq_iff_eq,beq_iff_eq]at Anf;have t3:((up.nd.val.toNat:Int)==0)=true:=by rw [beq_iff_eq];omega
     have t4:((up.nd.kids.length:Int)==1)=true:=by rw [beq_iff_eq];omega
     have Abl:Hid (Hw way m (ol++[up.off])=R):=Aa (by rw [<-hup,<-xy (by omega) (by rw [hup];exact hub),<-hma];exact Zt.out);clear hub Anf hc1 hcw o1 o2 o3 hup;have hoz:ol.length<=40:=by omega
     go_wp2_with(at_builtin;refine Eh rfl (.tmp 46) (.tmp 52) 38 rfl Tryz.VP wr w.heap.size u6 ol.length (ol.map zv) [.int .i64 up.off] rfl (by exact HO.out) rfl wr.heap.size 1 rfl rfl rfl (by decide) (by intro u hu;simp at hu;subst hu;rfl) (by omega) (by decide) (by exact HB.out.size) ?_;intro g6 c6 w6 Xa Nz hK6 kR)
     have bz:=Aa Xa;have KO:=Aa (HB.out.trans Nz);clear Xa Nz hK6 kR
     go_wp2_with fail
     go_roundw
     case rel=>exact⟨m,ol++[up.off],by go_num,by omega,by rw [AQ];simp;omega,Abl.out,fun o ho=>by
      rcases AL.1 ho with ho| ho
      ·exact HOs.out o ho
      ·rw [BC]at ho;subst ho;exact HOm.out,by rw [AQ,Dq];exact bz.out,KO.out⟩
     case measure=>simp [intOf];omega
   | false=>
     have z0:=hcw 0 _ rfl;have z2:=hcw 2 _ rfl;have z5:=hcw 5 _ rfl;have z6:=hcw 6 _ rfl;rw [Nat.add_zero]at z0;have t2:((a:Int)==0)=false:=by rw [beq_eq_false_iff_ne];omega
     have hR0:R=(m+1,ol):=by
      have:=Zt.out;rw [hma,jT (by omega) (by rw [hup];exact hub)]at this;exact this.symm
     obtain⟨at_,hat'⟩:∃at_,way[m+1]'(by omega)=at_:=⟨_,rfl⟩;have zf:Hid (O4 j way=match Jr up.nd.labels at_.label with
      | some i=>if Ci up.nd then match Ec j (V5 up.nd i)with
       | (j1,name,e)=>Fa j1 e up.word name (ol++[up.off])
        else(j.s,5)
      | none=>(j.s,5)):=Aa (by
      rw [fK HN.out (HLa.out (by have:=HN.out;omega)),HR.out,hR0];simp only;rw [Af hml,Af (by omega:m+1<way.length),hup,hat'])
     obtain⟨a2,b2,c2,d2,hc2, -⟩:=HW.out.at_ (m+1) (by omega);rw [hat']at hc2;have y5:wr.cell? ⟨g,a*7+5,none⟩=some (.int .u8 (at_.label.toNat:Int)):=by
      rw [hma];exact(HB.out.cell (p:=⟨g,(m+1)*7+5,none⟩) HW.out.lt).trans (hc2 5 _ rfl)
     have hy1:a<nl:=by have:=pW.out;omega
     have hy2:(a:Int)<(nl:Int):=by omega
     have hy3:decide ((a:Int)<(nl:Int))=true:=decide_eq_true hy2;have Acw:=o5.out up (by rw [<-hup];exact BM _);have Aq7:=((Bo _).1 Acw.right).1;have Aq8:=Acw.kids;have Aq9:=Acw.labels;have hor:Ci up.nd=true:=Acw.right;have HUl:=Aa Acw;have hbu:((up.nd.val.toNat:Int)==0)=true/\((up.nd.kids.length:Int)==1)=false\/((up.nd.val.toNat:Int)==0)=false:=by
      unfold UpB at hub;by_cases hv:up.nd.val.toNat=0
      ·refine .inl ⟨by rw [beq_iff_eq];omega,?_⟩;rw [hv]at hub;rw [beq_eq_false_iff_ne];intro e;have:up.nd.kids.length=1:=by omega
       rw [this]at hub;simp at hub
      ·exact .inr (by rw [beq_eq_false_iff_ne];omega)
     obtain⟨ok,VR,HWi,HP,HLn⟩:∃(ok:Bool)(VR:Nd),Hid (∀W,Below w.heap.size w W->Calls Tryz.prog 158 #[.agg #[.slice A1 up.nd.pre.length p1,.int .u64 (up.nd.val.toNat:Int),.slice A2 up.nd.labels.length p2,.slice A3 up.nd.kids.length p3],.int .u8 (at_.label.toNat:Int)] W fun e w'=>
      ∃A4 n4 c4 z4 A5 n5 c5 A6 n6 c6,e= .returned (.tuple #[.agg #[.slice A4 n4 c4,.int .u64 z4,.slice A5 n5 c5,.slice A6 n6 c6],.bool ok])/\Below W.heap.size W w'/\(ok=true->Xc w' (W.heap.size+2) (.agg #[.slice A4 n4 c4,.int .u64 z4,.slice A5 n5 c5,.slice A6 n6 c6]) VR))/\
      Hid (O4 j way=if ok=true then(match Ec j VR with| (j1,name,e)=>Fa j1 e up.word name (ol++[up.off]))else(j.s,5))/\Hid (VR.pre.length<=1000/\VR.labels.length<=1000/\VR.kids.length<=1000):=by
      have g1:=fun W(hW:Below w.heap.size w W)=>(Rd.below o1.1 hW:Bs W A1 up.nd.pre.length up.nd.pre)
      have g2:=fun W(hW:Below w.heap.size w W)=>(Rd.below o2.1 hW:Bs W A2 up.nd.labels.length up.nd.labels)
      have g3:=fun W(hW:Below w.heap.size w W)=>(Rd.below o3.1 hW:Ws W A3 up.nd.kids.length up.nd.kids)
      cases hf:Jr up.nd.labels at_.label with
      | none=>
        refine⟨false,up.nd,Aa (fun W hW=>(wH A1 A2 A3 up.nd.pre.length p1 up.nd.labels.length p2 up.nd.kids.length p3 up.nd at_.label W (by omega) (by omega) (by omega) (g1 W hW) (g2 W hW) (g3 W hW) (.inl hf)).mono ?_),Aa (by rw [zf.out,hf];rfl),Aa ⟨by omega,by omega,by omega⟩⟩;rintro e w'⟨rfl,hb⟩;exact⟨none,0,0,0,none,0,0,none,0,0,rfl,hb,fun h=>Bool.noConfusion h⟩
      | some i=>
        refine⟨true,V5 up.nd i,Aa (fun W hW=>(oL A1 A2 A3 up.nd.pre.length p1 up.nd.labels.length p2 up.nd.kids.length p3 up.nd at_.label i W (by omega) (by omega) (by omega) (g1 W hW) (g2 W hW) (g3 W hW) hf hor).mono ?_),Aa (by rw [zf.out,hf];simp only;rw [if_pos hor];rfl),Aa ⟨by show up.nd.pre.length<=1000;omega,by unfold V5 Js;simp;omega,by unfold V5 Js;simp;omega⟩⟩;rintro e w'⟨⟨A4,c4,A7,c7,A8,c8,rfl,s1,s2,s3⟩,hb⟩;exact⟨A4,_,c4,_,A7,_,c7,A8,_,c8,rfl,hb,fun _=>⟨A4,c4,A7,c7,A8,c8,rfl,s1,s2,s3⟩⟩
     obtain⟨W2,hW2,hb2,B2⟩:=FB wr 214 [.slice A1 up.nd.pre.length p1,.int .u64 (up.nd.val.toNat:Int),.slice A2 up.nd.labels.length p2,.slice A3 up.nd.kids.length p3,.int .i64 up.off,.int .u8 (up.label.toNat:Int),.int .i64 up.word];have HB2:=Aa (HB.out.trans (hb2.mono HB.out.size));have v5:W2.cell? ⟨g,a*7+5,none⟩=some (.int .u8 (at_.label.toNat:Int)):=(hb2.cell (p:=⟨g,a*7+5,none⟩) (Cf HW.out.lt HB.out.size)).trans y5;have aS:=HW.out.lt;have QB:=Aa (jR HO.out hb2);have Tt:=Aa B2;have HK:Hid (∀X,Below W2.heap.size W2 X->X.cell? ⟨wr.heap.size,0,none⟩=some (.slice A1 up.nd.pre.length p1)/\X.cell? ⟨wr.heap.size,1,none⟩=some (.int .u64 (up.nd.val.toNat:Int))/\X.cell? ⟨wr.heap.size,2,none⟩=some (.slice A2 up.nd.labels.length p2)/\X.cell? ⟨wr.heap.size,3,none⟩=some (.slice A3 up.nd.kids.length p3)/\X.cell? ⟨g,a*7+5,none⟩=some (.int .u8 (at_.label.toNat:Int))):=Aa (fun X k=>⟨(B2.below k B2.lt).cell 0,(B2.below k B2.lt).cell 1,(B2.below k B2.lt).cell 2,(B2.below k B2.lt).cell 3,(k.cell (p:=⟨g,a*7+5,none⟩) (Cf aS HB2.out.size)).trans v5⟩);have HW2:=Aa hW2;have HMa:=Aa hma;have hs2:wr.heap.size+1=W2.heap.size:=by rw [hW2];simp
     have HS2:=Aa hs2;have HHc:=Aa hcw;have HJl:Hid (∀b,G b->b<w.heap.size):=Aa HJ.out.lt;clear hub hc1 hcw hup hc2 hat' hR0 Acw hb2 B2 hW2 hma hs2 o1 o2 o3 v5;have hgo:∀(Q:Prop),(∀(_:((up.nd.val.toNat:Int)==0)=true)(_:((up.nd.kids.length:Int)==1)=false),Q)->(∀(_:((up.nd.val.toNat:Int)==0)=false),Q)->Q:=fun Q h1 h2=>by
      rcases hbu with⟨h,k⟩| h
      ·exact h1 h k
      ·exact h2 h
     clear hbu;refine hgo _ (fun t3 t4=> ?_) (fun t3=> ?_)
     all_goals(
      clear hgo
      go_wp2_with fail
      rw [<-HW2.out]
      go_cut [8,9](fun s8 s9 wx=>∃x8 A4 n4 c4 z4 A5 n5 c5 A6 n6 c6,s8=Aw x8/\s9= .bool ok/\CG wx x8 212 [.slice A4 n4 c4,.int .u64 z4,.slice A5 n5 c5,.slice A6 n6 c6]/\Below W2.heap.size W2 wx/\(ok=true->Xc wx W2.heap.size (.agg #[.slice A4 n4 c4,.int .u64 z4,.slice A5 n5 c5,.slice A6 n6 c6]) VR))
      case first=>
       refine wp_region_held_drew (S:=(fun w'=>w'.cell? ⟨wr.heap.size,0,none⟩=some (.slice A1 up.nd.pre.length p1)/\w'.cell? ⟨wr.heap.size,1,none⟩=some (.int .u64 (up.nd.val.toNat:Int))/\w'.cell? ⟨wr.heap.size,2,none⟩=some (.slice A2 up.nd.labels.length p2)/\w'.cell? ⟨wr.heap.size,3,none⟩=some (.slice A3 up.nd.kids.length p3)/\w'.cell? ⟨g,a*7+5,none⟩=some (.int .u8 (at_.label.toNat:Int)))) (by kernel_rfl) (HK.out _ ((Dr.drew W2).below _)) (fun hHeld=> ?_);refine Ef 0 (Aw wr.heap.size) hHeld ?_
       try simp only [Act.put,Ap,Ag,Ae,Am,Aq]
       refine Ef 1 (.agg #[.slice A1 up.nd.pre.length p1,.int .u64 (up.nd.val.toNat:Int),.slice A2 up.nd.labels.length p2,.slice A3 up.nd.kids.length p3]) hHeld (hy:=fun w hSw=>by obtain⟨s0,s1,s2,s3,s4⟩:=hSw;go_simp) ?_
       try simp only [Act.put,Ap,Ah,Ag,Ae,Am,Aq]
       refine Ef 2 (.slice (some ⟨g,0,none⟩) nl cv) hHeld ?_
       try simp only [Act.put,Ap,Ah,Ag,Ae,Am,Aq]
       refine Ef 3 (.int .i64 (a:Nat)) hHeld ?_
       try simp only [Act.put,Ap,Ah,Ag,Ae,Am,Aq]
       refine Ef 4 (.pointer (some ⟨g,a*7,none⟩)) hHeld ?_
       try simp only [Act.put,Ap,Ah,Ag,Ae,Am,Aq]
       refine Ef 5 (.pointer (some ⟨g,a*7+5,none⟩)) hHeld ?_
       try simp only [Act.put,Ap,Ah,Ag,Ae,Am,Aq]
       refine Ef 6 (.int .u8 (at_.label.toNat:Int)) hHeld (hy:=fun w hSw=>by obtain⟨s0,s1,s2,s3,s4⟩:=hSw;go_simp) ?_
       try simp only [Act.put,Ap,Ah,Ag,Ae,Am,Aq]
       refine wpAnyH_ready (rs:=[7,11]) (by kernel_rfl) (by simp) ?_;refine AllReadyH.cons rfl (fun K hK=> ?_) (AllReadyH.cons rfl (fun K hK=> ?_) AllReadyH.nil)
       ·go_simp;refine(HWi.out _ (HB2.out.trans (((Dr.drew W2).below _).mono HB2.out.size))).mono ?_;rintro e w3⟨A4,n4,c4,z4,A5,n5,c5,A6,n6,c6,rfl,hb3,hN3⟩;have hbb:Below W2.heap.size W2 w3:=((Dr.drew W2).below _).trans hb3;refine hK.out _ _ (HK.out _ hbb) (fun hHeld=> ?_);clear hK K
        try simp only [Act.put,Ap,Ah,Ag,Ae,Am,Aq]
        refine Ef 8 (.tuple #[.agg #[.slice A4 n4 c4,.int .u64 z4,.slice A5 n5 c5,.slice A6 n6 c6],.bool ok]) hHeld ?_
        try simp only [Act.put,Ap,Ah,Ag,Ae,Am,Aq]
        refine Ef 9 (.agg #[.slice A4 n4 c4,.int .u64 z4,.slice A5 n5 c5,.slice A6 n6 c6]) hHeld ?_
        try simp only [Act.put,Ap,Ah,Ag,Ae,Am,Aq]
        refine Ef 10 (.bool ok) hHeld ?_
        try simp only [Act.put,Ap,Ah,Ag,Ae,Am,Aq]
        refine wpAnyH_ready (rs:=[11]) (by kernel_rfl) (by simp) ?_;refine AllReadyH.cons rfl (fun K hK=> ?_) AllReadyH.nil;go_simp;refine hK.out _ _ (HK.out _ (hbb.alloc hbb.size _)) (fun hHeld=> ?_);clear hK K
        try simp only [Act.put,Ap,Ah,Ag,Ae,Am,Aq]
        refine wpAnyH_ready (rs:=[12]) (by kernel_rfl) (by simp) ?_;refine AllReadyH.cons rfl (fun K hK=> ?_) AllReadyH.nil;go_simp;obtain⟨W5,kP⟩:∃W5,W5=w3.alloc (.cells #[.slice A4 n4 c4,.int .u64 z4,.slice A5 n5 c5,.slice A6 n6 c6] 212):=⟨_,rfl⟩;rw [<-kP];have Art:Below w3.heap.size w3 W5:=kP▸(Below.refl _ _).alloc (Ad _) _;have mQ:CG W5 w3.heap.size 212 [.slice A4 n4 c4,.int .u64 z4,.slice A5 n5 c5,.slice A6 n6 c6]:=kP▸heap_alloc_new _ _;have Ago:=hbb.trans (Art.mono hbb.size);have hN5:ok=true->Xc W5 W2.heap.size (.agg #[.slice A4 n4 c4,.int .u64 z4,.slice A5 n5 c5,.slice A6 n6 c6]) VR:=fun h=>((hN3 h).below Art).mono (by have:W2.drew.heap.size=W2.heap.size:=rfl;omega)
        clear kP;refine hK.out _ _ (HK.out _ Ago) (fun hHeld=> ?_);clear hK K
        try simp only [Act.put,Ap,Ah,Ag,Ae,Am,Aq]
        refine Ef 13 (.bool ok) hHeld ?_
        try simp only [Act.put,Ap,Ah,Ag,Ae,Am,Aq]
        refine wpAnyH_done (by kernel_rfl) ?_ _
        go_wp2_with fail
        go_meet
        exact⟨w3.heap.size,A4,n4,c4,z4,A5,n5,c5,A6,n6,c6,rfl,rfl,mQ,Ago,hN5⟩
       ·go_simp;obtain⟨W4,Vs⟩:∃W4,W4=(W2.alloc (.cells #[.slice none 0 0,.int .u64 0,.slice none 0 0,.slice none 0 0] 212)).drew:=⟨_,rfl⟩;rw [<-Vs];have hb4:Below W2.heap.size W2 W4:=by rw [Vs];exact((Below.refl W2.heap.size W2).alloc (Ad _) _).drew
        have hB4:CG W4 W2.heap.size 212 [.slice none 0 0,.int .u64 0,.slice none 0 0,.slice none 0 0]:=by rw [Vs];exact heap_alloc_new W2 (.cells #[.slice none 0 0,.int .u64 0,.slice none 0 0,.slice none 0 0] 212)
        have hs4:=hB4.lt;clear Vs;refine hK.out _ _ (HK.out _ hb4) (fun hHeld=> ?_);clear hK K
        try simp only [Act.put,Ap,Ah,Ag,Ae,Am,Aq]
        refine wpAnyH_ready (rs:=[7]) (by kernel_rfl) (by simp) ?_;refine AllReadyH.cons rfl (fun K hK=> ?_) AllReadyH.nil;go_simp;refine(HWi.out _ (HB2.out.trans (hb4.mono HB2.out.size))).mono ?_;rintro e w3⟨A4,n4,c4,z4,A5,n5,c5,A6,n6,c6,rfl,hb3,hN3⟩;have hbb:Below W2.heap.size W2 w3:=hb4.trans (hb3.mono hb4.size);have hB3:=hB4.below hb3 hs4;refine hK.out _ _ (HK.out _ hbb) (fun hHeld=> ?_);clear hK K
        try simp only [Act.put,Ap,Ah,Ag,Ae,Am,Aq]
        refine Ef 8 (.tuple #[.agg #[.slice A4 n4 c4,.int .u64 z4,.slice A5 n5 c5,.slice A6 n6 c6],.bool ok]) hHeld ?_
        try simp only [Act.put,Ap,Ah,Ag,Ae,Am,Aq]
        refine Ef 9 (.agg #[.slice A4 n4 c4,.int .u64 z4,.slice A5 n5 c5,.slice A6 n6 c6]) hHeld ?_
        try simp only [Act.put,Ap,Ah,Ag,Ae,Am,Aq]
        refine Ef 10 (.bool ok) hHeld ?_
        try simp only [Act.put,Ap,Ah,Ag,Ae,Am,Aq]
        obtain⟨z0',z1',z2',z3',XE,XF,bF,bG⟩:=C9 hB3;refine wpAnyH_ready (rs:=[12]) (by kernel_rfl) (by simp) ?_;refine AllReadyH.cons rfl (fun K hK=> ?_) AllReadyH.nil;go_simp;obtain⟨W5,kP,mQ,Auv,hk5⟩:=Abz hB3 hbb (Ad _) (.slice A4 n4 c4) (.int .u64 z4) (.slice A5 n5 c5) (.slice A6 n6 c6);rw [<-kP];have Ago:=Auv;have hN5:ok=true->Xc W5 W2.heap.size (.agg #[.slice A4 n4 c4,.int .u64 z4,.slice A5 n5 c5,.slice A6 n6 c6]) VR:=fun h=>by
         obtain⟨A7,c7,A8,c8,A9,c9,e,s1,s2,s3⟩:=hN3 h;exact⟨A7,c7,A8,c8,A9,c9,e,EM (Kw s1 hk5 (by omega)) (by omega),EM (Kw s2 hk5 (by omega)) (by omega),EM (Kw s3 hk5 (by omega)) (by omega)⟩
        clear kP;refine hK.out _ _ (HK.out _ Ago) (fun hHeld=> ?_);clear hK K
        try simp only [Act.put,Ap,Ah,Ag,Ae,Am,Aq]
        refine Ef 13 (.bool ok) hHeld ?_
        try simp only [Act.put,Ap,Ah,Ag,Ae,Am,Aq]
        refine wpAnyH_done (by kernel_rfl) ?_ _
        go_wp2_with fail
        go_meet
        exact⟨W2.heap.size,A4,n4,c4,z4,A5,n5,c5,A6,n6,c6,rfl,rfl,mQ,Ago,hN5⟩
      case rest=>
       obtain⟨x8,A4,n4,c4,z4,A5,n5,c5,A6,n6,c6,hs8,hs9,Yc,hb8,hN8⟩:=hcut;subst hs8;subst hs9;have HBc:=Aa (HB2.out.trans (hb8.mono HB2.out.size));cases ok with
       | false=>
         clear hN8 Yc hb8
         go_wp2_with fail
         go_ret;refine⟨by rw [HP.out];rfl,j,G,?_,HJ.out.below HBc.out,AO.of_below HBc.out⟩;rw [HP.out];rfl
       | true=>
         obtain⟨A7,c7,A8,c8,A9,c9,e,s1,s2,s3⟩:=hN8 rfl;simp at e;obtain⟨⟨rfl,rfl,rfl⟩,ez,⟨rfl,rfl,rfl⟩,rfl,rfl,rfl⟩:=e;obtain⟨R8,hR8⟩:∃R,Ec j VR=R:=⟨_,rfl⟩;have hbd:=Lj (HJ.out.below HBc.out) VR A4 A5 A6 c4 c5 c6 HLn.out.1 HLn.out.2.1 HLn.out.2.2 (CB s1).2 (CB s2).2 (CB s3).2 (by omega);have HMd:Hid ((Ec j VR).1.made.length<=j.made.length+1):=Aa (Ij j VR);rw [hR8]at hbd HP HMd;rw [ez]at Yc;obtain⟨j1,name,eb⟩:=R8;rw [if_pos rfl]at HP;unfold Io at hbd;simp only at HP HMd hbd;have HBd:=Aa hbd;obtain⟨q0,q1,q2,q3,f0,f1,f2,f3⟩:=C9 Yc;have HBp:=Aa (Tt.out.below hb8 Tt.out.lt);have HOc:=Aa (jR QB.out hb8);clear hN8 Yc hb8 s1 s2 s3 ez hR8 hbd
         go_wp2_with fail
         refine HBd.out.mono ?_;rintro e w8⟨rfl,G8,hj8,VO⟩;have Auw:=HBc.out.size;have Awl:=HB.out.size;have B9:=HBp.out.touch VO.touch (fun h=>by have:=HJl.out _ h;omega);have d4:=B9.cell 4;have d6:=B9.cell 6;have Awm:=HBp.out.lt;simp only [List.getElem?_cons_zero,List.getElem?_cons_succ]at d4 d6;have hO9:=H6 HOc.out VO.touch (fun q hq h=>by have:=HJl.out _ h;have:=(jS HOc.out q hq).1;omega);have iV:Hid (∀X,Below w8.heap.size w8 X->X.ownsRow w.heap.size 3 1 u6 ol.length (ol.map zv)):=Aa (fun X k=>jR hO9 k);have hn8:∀q,u6.ownBlock=some q->¬G8 q:=fun q hq h=>by
          have h1:=jS HOc.out q hq;rcases VO.own q h with h2| h2
          ·have:=HJl.out _ h2;omega
          ·omega
         have hn9:∀q,u6.ownBlock=some q->w.heap.size<=q/\q≠wr.heap.size:=fun q hq=>by
          refine⟨(jS HOc.out q hq).1,fun e=> ?_⟩;have:=(jS HO.out q hq).2;omega
         have hbs:=HJ.out.base;have kS:Hid (∀X,Touch (fun q=>u6.ownBlock=some q) w8 X->X.cell? ⟨wr.heap.size,4,none⟩=some (.int .i64 up.off)/\X.cell? ⟨wr.heap.size,6,none⟩=some (.int .i64 up.word)):=Aa (fun X k=>⟨(B9.touch k (fun e=>(hn9 _ e).2 rfl)).cell 4,(B9.touch k (fun e=>(hn9 _ e).2 rfl)).cell 6⟩);have Aux:¬G8 wr.heap.size:=fun h=>by
          rcases VO.own _ h with h2| h2
          ·have:=HJl.out _ h2;omega
          ·omega
         have HKm:Hid (∀X Y,Touch (fun q=>u6.ownBlock=some q) w8 X->Touch G8 X Y->Y.cell? ⟨wr.heap.size,4,none⟩=some (.int .i64 up.off)/\Y.cell? ⟨wr.heap.size,6,none⟩=some (.int .i64 up.word)):=Aa (fun X Y k k2=>
          have B10:=(B9.touch k (fun e=>(hn9 _ e).2 rfl)).touch k2 Aux
          ⟨B10.cell 4,B10.cell 6⟩)
         have HJX:Hid (∀X,Touch (fun q=>u6.ownBlock=some q) w8 X->FU X base jb x d p L j1 G8):=Aa (fun X k=>hj8.touch k hn8 (fun e=>by have:=(hn9 _ e).1;omega) (fun e=>by have:=(hn9 _ e).1;omega) (fun e=>by have:=(hn9 _ e).1;omega));have HMv:Hid (∀X,Touch (fun q=>u6.ownBlock=some q) w8 X->AO G G8 w X):=Aa (fun X k=>⟨((AO.of_below HBc.out).trans VO).touch.trans k (fun q hq=> .inr (hn9 q hq).1),((AO.of_below HBc.out).trans VO).own⟩);have rY:Hid (∀q,u6.ownBlock=some q\/w8.heap.size<=q->¬G8 q):=Aa (fun q h1 h=>h1.elim (fun h2=>hn8 q h2 h) (fun h2=>by have:=hj8.lt q h;omega));have hlen:(ol++[up.off]).length=ol.length+1:=by simp
         obtain⟨jw,oO,hjl⟩:=HUl.out.word;have HFin:Hid (∀X A c,Touch (fun q=>u6.ownBlock=some q) w8 X->X.ownsRow w.heap.size 3 1 (.slice A (ol.length+1) c) (ol.length+1) (ol.map zv++[.int .i64 up.off])->(∀a,A=some a->¬G8 a.block)->Calls Tryz.prog 115 #[Aw jb,.int .i64 eb,.int .i64 up.word,.int .u64 (name.toNat:Int),.slice A (ol.length+1) c] X (Qg (Fa j1 eb up.word name (ol++[up.off])) base jb x d p L j1 G8 X)):=Aa (fun X A c k hX hA=>by
          rw [<-hlen];refine Qh (HJX.out X k) eb up.word jw oO hjl name A c (ol++[up.off]) ⟨?_,fun _ a ea=>hA a ea⟩ (fun o ho=> ?_) (by omega) (by have:=HMd.out;omega)
          ·rw [Dq,hlen];exact(CB hX).2
          ·rcases AL.1 ho with ho| ho
           ·exact HOs.out o ho
           ·rw [BC]at ho;subst ho;exact HOm.out)
         have Auy:w.heap.size<=w8.heap.size:=Bg Auw VO.touch.size;clear oO hjl hlen hj8 VO B9 hO9 hbs HBd q0 q1 q2 q3 f0 f1 f2 f3
         go_wp2_with fail
         go_region_held_law(fun w'=>w'.cell? ⟨wr.heap.size,4,none⟩=some (.int .i64 up.off)/\w'.cell? ⟨wr.heap.size,6,none⟩=some (.int .i64 up.word))
          (first| exact⟨d4,d6⟩| exact kS.out _ (Touch.refl _ _)| exact kS.out _ (Touch.of_below ((Dr.drew w8).below _))| exact kS.out _ (Touch.of_below (((Dr.drew w8).below _).alloc (Ad _) _))| exact HKm.out _ _ ht9 Ang.touch| exact kS.out _ ht9)
          (first
          | (refine MV rfl (.tmp 88) (.tmp 91) 38 rfl Tryz.VP w8 w.heap.size u6 ol.length (ol.map zv) [.int .i64 up.off] (by simp [Act.eval]) (iV.out _ (Below.refl _ _)) rfl rfl rfl rfl w8.heap.size 1 (by simp [Act.eval]) rfl rfl (by decide) (by intro u hu;simp at hu;subst hu;rfl) (by omega) (by decide) Auy ?_;intro g9 c9 w9 hO9 hB9 hK9 hg9;have ht9:Touch (fun q=>u6.ownBlock=some q) w8 w9:=⟨hB9.os,hB9.tape,hB9.output,hB9.size,fun q hq hn=>hK9.2 q hq (fun e=>hn e.symm)⟩;have Auz:∀a,some (⟨g9,0,none⟩:Addr)=some a->¬G8 a.block:=fun a ea=>by injection ea with ea;subst ea;exact rY.out _ hg9)
          | (go_at_call 115;refine(HFin.out w9 (some ⟨g9,0,none⟩) c9 ht9 hO9 Auz).mono ?_;rintro e w10 hfp;obtain⟨he,G10,Aru,Ang⟩:=hfp;subst he))
         all_goals(
          have HMw:=Aa ((HMv.out _ ht9).trans Ang);have HJw:=Aa Aru;clear ht9 Ang Aru hO9 hB9 hK9
          go_wp2_with fail
          go_ret;refine⟨by rw [HP.out];rfl,_,G10,?_,HJw.out,HMw.out⟩;rw [HP.out]))
end
theorem Agn.Arv{w w1 W:World}{F:Nat->Prop}{g:Nat}{way:List Pl}(hF:∀b,F b->b<w.heap.size)(hg:w.heap.size<=g)(hgl:g<w1.heap.size)(k:Below w1.heap.size w1 W){J:Nat}(hJ:w1.heap.size<=J)
 (hat:∀i(hi:i<way.length),∃a b c' d,yT w1 w.heap.size g i way[i] a b c' d):Agn W (fun b=>F b\/b=J) g way:=by
 refine⟨Cf hgl k.size,fun h=>h.elim (fun h=>by have:=hF _ h;omega) (fun h=>by omega),fun i hi=> ?_⟩;obtain⟨a,b,c',d,hc⟩:=hat i hi;refine⟨a,b,c',d,fun j u hj=> ?_,?_⟩
 ·rw [k.cell (p:=⟨g,i*7+j,none⟩) hgl,Nat.mul_comm];exact hc.cells j u hj
 ·have q0:Zx w1 (fun b=>F b\/b=J) a b c' d way[i].nd:=Zx.Aqq hc.nd (fun b hb hbl hf=>hf.elim (fun h=>by have:=hF _ h;omega) (fun h=>by omega));exact q0.moved (AO.of_below k)
theorem FU.done2{w W w':World}{base jb x d p L:Nat}{j:Jm}{F G G':Nat->Prop}(h:FU w' base jb x d p L j G')(m:AO G G' W w')(hb:Below w.heap.size w W)(hG:∀b,G b->F b\/w.heap.size<=b):∃F',IxM w' x d p L j.s F'/\AO F F' w w'/\∀b,F' b->G' b:=by
 obtain⟨F',v,hj,hG'⟩:=h;have hs:=hb.size;refine⟨F',hj.ix,⟨(Touch.of_below hb).trans m.touch hG,fun b hb'=> ?_⟩,fun b hb=>(hG' b).2 (.inl hb)⟩;rcases m.own b ((hG' b).2 (.inl hb'))with h1| h1
 ·exact hG b h1
 ·exact .inr (by omega)
section
variable{w:World}{x d p L:Nat}{s:St}{F:Nat->Prop}{lf:Int}
theorem x9(h:IX (.up (MU lf)) w x d p L s F)(key:ByteArray)(h16:¬16<key.size){way:List Pl}{rest:List UInt8}{last:Pl}(hpa:FQ s key.data.toList=some (way,rest))(hst:CX way rest=some last)(hv0:last.nd.val≠0)(hk0:last.nd.kids.length=0):
 Calls Tryz.prog 70 #[Aw x,.string key] w (ZE (Rf ⟨.up lf,s⟩ key.data.toList) x d p L F w):=by
 have HX:=Aa h;have HA:=Aa (JV h key (by omega));have hkl:=Qi key;rw [if_neg h16]at HA;obtain⟨l0,l1,ok,FT⟩:=h.L0;have Afy:16<=L:=by have:=ok.fits;have:=ok.BI;omega
 have Tu:=Aa (JM h key (by omega));obtain⟨J7,hrl⟩:=SB ok (by omega) FT hpa;have hwl:=Ph hpa;rw [hkl]at hrl hwl;replace hrl:rest.length<=32:=by omega
 replace hwl:way.length<=33:=by omega
 have hpre:∀pl∈way,pl.nd.pre.length<=1000:=fun pl hm=>by have:=((Bo _).1 (J7 pl hm).right).1;omega
 have HPk:=Aa J7;have wJ:=Aa hpre;have Zz:=Aa hpa;have hxl:=h.box.lt;have jB:=Aa h.sys.tabs.lt;have LG:=Aa h.sys.lt;have hmem:last∈way:=by
  have h2:=hst;unfold CX at h2;split at h2
  ·cases h2
  ·rename_i l hl;split at h2
   ·injection h2 with h2;subst h2;exact List.mem_of_getLast? hl
   ·cases h2
 have h0:0<way.length:=List.length_pos_of_mem hmem;have o5:=Aa (J7 last hmem);have OO:=Aa hst;have t1:((last.nd.val.toNat:Int)==0)=false:=by
  rw [beq_eq_false_iff_ne];intro e;exact hv0 (Eo.1 (by simp;omega))
 have t2:((last.nd.kids.length:Int)==0)=true:=by rw [beq_iff_eq];omega
 obtain⟨R,hR⟩:∃R,O4 ⟨⟨.up lf,s⟩,[]⟩ way=R:=⟨_,rfl⟩;obtain⟨s1,er⟩:=R;have HR:=Aa hR;obtain⟨⟨q2,vc⟩,hvr⟩:∃R,NF s1 last 0=R:=⟨_,rfl⟩;have HVr:=Aa hvr;have HP:Hid (Rf ⟨.up lf,s⟩ key.data.toList=if er=6 then(if vc=0 then(q2,last.nd.val,0)else(q2,0,vc))else if er=0 then(s1,last.nd.val,0)else(s1,0,er)):=Aa (by
  unfold Rf;rw [hkl,if_neg h16];simp only [hpa,hst,if_neg hv0,if_pos hk0,hR,hvr])
 clear hvr;clear h hkl ok FT hpa hst J7 hpre hmem hR hk0 hv0;go_enter Tryz.func70,Tryz.ntmps70
 go_wp2_with fail
 refine HA.out.mono ?_;rintro e w1⟨rfl,rfl⟩;clear HA
 go_wp2_with fail
 refine Tu.out.mono ?_;rintro e w1⟨hb1,hp1⟩;rw [Zz.out]at hp1;obtain⟨vw,A,c,rfl,J6,hrs,hrc⟩:=hp1;have HW1:=Aa J6;have HR1:=Aa hrs;have HB1:=Aa hb1;clear J6 hrs hb1 Tu
 go_wp2_with fail
 refine(Hm HW1.out (by omega) wJ.out HR1.out.1 (by omega)).mono ?_;rintro e w2⟨hb2,hp2⟩;rw [OO.out]at hp2;obtain⟨a,b,c',d',rfl,hnd⟩:=hp2;obtain⟨A1,m1,A2,m2,A3,m3,e,o1,o2,o3⟩:=hnd;simp only [Value.agg.injEq]at e;simp at e;obtain⟨rfl,rfl,rfl,rfl⟩:=e;obtain⟨g,cv,rfl,hcv,hbg,hgw,hat⟩:=HW1.out.at (fun e=>by rw [e]at h0;exact absurd h0 (Nat.lt_irrefl 0));have HB2:=Aa (HB1.out.trans (hb2.mono HB1.out.size));obtain⟨W3,hW3,hb3,B3⟩:=FB w2 214 [.slice A1 last.nd.pre.length m1,.int .u64 (last.nd.val.toNat:Int),.slice A2 last.nd.labels.length m2,.slice A3 last.nd.kids.length m3,.int .i64 last.off,.int .u8 (last.label.toNat:Int),.int .i64 last.word];have HB3:=Aa (HB2.out.trans (hb3.mono HB2.out.size));have hs3:w2.heap.size+1=W3.heap.size:=by rw [hW3];simp
 obtain⟨W4,Vs,hb4, -⟩:=FB W3 219 [Aw x,.slice none 0 0];have HB4:=Aa (HB3.out.trans (hb4.mono HB3.out.size));have hsz3:=HB3.out.size;have hJ:=jy (q:=⟨.up lf,s⟩) (HX.out.below HB4.out) Vs (fun b hb=>by have:=LG.out b hb;omega) (by omega) (by have:=jB.out;omega);have XG:Below w1.heap.size w1 W4:=hb2.trans ((hb3.trans (hb4.mono hb3.size)).mono hb2.size);have Arw:w1.heap.size<=W3.heap.size:=Bg hb2.size hb3.size;have hWy:Agn W4 (fun b=>F b\/b=W3.heap.size) g way:=Agn.Arv LG.out hbg hgw XG Arw hat;have vF:=Aa (Acv hJ way g cv h0 (by omega) HPk.out l1 hWy (by simp));rw [HR.out]at vF;have B4:=B3.below hb4 B3.lt;obtain⟨y0,y1,y2,y3,y4,y5,y6⟩:=ED B3;obtain⟨x0,x1,x2,x3,x4,x5,x6⟩:=ED B4;have Arx:=Aa B4;have HW3:=Aa hW3;have aA:=Aa Vs;have OC:=Aa hs3;rw [hW3]at y0 y1 y2 y3 y4 y5 y6;clear o1 o2 o3 hb2 hb3 B3 B4 hW3 Vs hb4 hJ XG Arw hWy hat hcv hbg hgw hs3
 go_wp2_with fail
 rw [<-HW3.out,<-aA.out];rw [show w2.heap.size+1=W3.heap.size from OC.out];refine vF.out.mono ?_;rintro e w5⟨rfl,j5,G5,hj5,Ary,QH⟩;simp only at hj5⊢;have hsz2:=HB2.out.size;obtain⟨F5,hx5,Arz,hf5⟩:=Ary.done2 QH HB4.out (fun b hb=>hb.imp id (fun e=>by omega));have hn5:¬F5 w2.heap.size:=fun hf=>by
  have:=OC.out;have:=Arx.out.lt;rcases QH.own _ (hf5 _ hf)with(h1| h1)| h1
  ·have:=LG.out _ h1;omega
  ·omega
  ·omega
 rw [hj5]at hx5;have HF5:=Aa (And.intro hx5 Arz);have B5:=Arx.out.touch QH.touch (fun hg=>by
  have:=OC.out;rcases hg with hg| hg
  ·have:=LG.out _ hg;omega
  ·omega)
 have Au0:=Aa B5;obtain⟨z0,z1,z2,z3,z4,z5,z6⟩:=ED B5;clear hx5 Arz Ary QH vF B5 x0 x1 x2 x3 x4 x5 x6 y0 y1 y2 y3 y4 y5 y6 hj5;by_cases h6:er=6
 ·subst h6;rw [if_pos rfl]at HP;have HV:=Qd (q:=s1) HF5.out.1 last (o5.out) A1 A2 A3 last.nd.pre.length m1 last.nd.labels.length m2 last.nd.kids.length m3 0;rw [HVr.out]at HV;have HV:=Aa HV
  go_wp2_with fail
  refine HV.out.mono ?_;rintro e w6⟨rfl,F6,hx6,Vu⟩;have HF:=Aa (And.intro hx6 (HF5.out.2.trans Vu));have B6:=Au0.out.touch Vu.touch hn5;obtain⟨k0,k1,k2,k3,k4,k5,k6⟩:=ED B6;clear hx6 Vu B6 HV z0 z1 z2 z3 z4 z5 z6;by_cases hvc:vc=0
  ·subst hvc;rw [if_pos rfl]at HP
   go_wp2_with fail
   go_ret2;refine⟨by rw [HP.out];rfl,F6,?_,HF.out.2⟩;rw [HP.out];exact HF.out.1
  ·rw [if_neg hvc]at HP;have t8:(vc==0)=false:=by rw [beq_eq_false_iff_ne];exact hvc
   have t9:(vc !=0)=true:=by rw [bne_iff_ne];exact hvc
   clear hvc
   go_wp2_with fail
   go_ret2;refine⟨by rw [HP.out];rfl,F6,?_,HF.out.2⟩;rw [HP.out];exact HF.out.1
 ·have t6:(er==6)=false:=by rw [beq_eq_false_iff_ne];exact h6
  rw [if_neg h6]at HP;by_cases he:er=0
  ·subst he;rw [if_pos rfl]at HP
   go_wp2_with fail
   go_ret2;refine⟨by rw [HP.out];rfl,F5,?_,HF5.out.2⟩;rw [HP.out];exact HF5.out.1
  ·have t7:(er==0)=false:=by rw [beq_eq_false_iff_ne];exact he
   have t8:(er !=0)=true:=by simp [he]
   rw [if_neg he]at HP
   go_wp2_with fail
   go_ret2;refine⟨by rw [HP.out];rfl,F5,?_,HF5.out.2⟩;rw [HP.out];exact HF5.out.1
theorem Agp(h:IX (.up (MU lf)) w x d p L s F)(key:ByteArray)(hk:key.size<=1000):
 Calls Tryz.prog 70 #[Aw x,.string key] w (ZE (Rf ⟨.up lf,s⟩ key.data.toList) x d p L F w):=by
 by_cases hc:∃way rest last,FQ s key.data.toList=some (way,rest)/\CX way rest=some last/\last.nd.val≠0/\last.nd.kids.length=0/\¬16<key.size
 ·obtain⟨way,rest,last,h1,h2,h3,h4,h5⟩:=hc;exact x9 h key h5 h1 h2 h3 h4
 ·exact wM h key hk (fun way rest last h1 h2 h3 h4 h5=>hc ⟨way,rest,last,h1,h2,h3,h5,h4⟩)
theorem zL(h:Ix w x d p L s F)(key:ByteArray)(hk:key.size<=1000):
 Calls Tryz.prog 70 #[Aw x,.string key] w (Ajd (U7 s key.data.toList) x d p L F w):=by
 have:=Agp (lf:= -1) h key hk;rw [Ae4]at this;exact this
end
