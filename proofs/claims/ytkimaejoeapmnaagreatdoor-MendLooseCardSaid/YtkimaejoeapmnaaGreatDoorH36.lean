import Derived.Deep.DeepCutAuto
import Derived.Deep.RegionHeldLaw
import Derived.Test.YtkimaejoeapmnaaGreatDoorH26
set_option linter.defProp false
set_option maxHeartbeats 32000000
set_option maxRecDepth 100000
open Nat renaming le_refl->Ad,lt_of_lt_of_le->BQ,le_trans->Bc
open Array renaming getElem?_eq_some_iff->AB
open List renaming getElem?_eq_getElem->Af,getElem_mem->BI,mem_singleton->BD,length_append->AQ,mem_append->AL,map_append->Dx,getElem_toArray->Ap,getElem_cons_zero->Ag,setIfInBounds_toArray->Ae,set_cons_zero->Aj,set_cons_succ->Aq,getElem_cons_succ->Ah
open UInt64 renaming toNat_inj->Ec
open Go.Lib renaming hid->Aa
namespace Go.Proofs.YtkimaejoeapmnaaGreatDoor
open Go.RowKit
open Go.Proofs.Tryz
def lN{w w':World}{base n k:Nat}{e:TypeId}{v:Value}{xs:List Value}(h:w.ownsRow base e k v n xs)(hb:η w w'):w'.ownsRow base e k v n xs:=
 EU h (Kept.of_below (r:=none) hb) (by
  rcases h.2 with⟨h1,_⟩| ⟨g,cap,cur,h1,_⟩
  ·exact .inr (by subst h1;rfl)
  ·exact .inl (by subst h1;exact λe=>nomatch e))
def Ale{w:World}{base k n:Nat}{e:TypeId}{v:Value}{xs:List Value}(h:w.ownsRow base e k v n xs):∃A c,v= .slice A n c/\n<=c/\Rd w A (n*k) xs:=by
 rcases h.2 with⟨h1,h2⟩| ⟨g,cap,cur,h1,h2,h3,h4,h5,h6,h7⟩
 ·subst h2;exact⟨none,0,h1,Ad _,h.1,λhn=>O⟩
 ·refine⟨_,_,h1,h4,h.1,λhn=>⟨g,0,rfl,(AB.1 h3).1,λj hj=> ?_⟩⟩;rw [cell_of_row w g _ cur _ (0,0) h3,<-h7,List.getElem?_take,if_pos O];simp
def Eo{P:Program}{ops:Array Oper}{Q:Exit->Act->World->Prop}{md:Region.Mode}{S:World->Prop}(i:Nat)(v:Value){oi:Oper}{fuel:Nat}{listed:Array Bool}{a:Act}{w:World}(hS:S w)(h:wpAnyH P md ops Q S fuel (listed.setIfInBounds i true) (a.put oi.dst v) w)(hi:ops[i]? =some oi:=by rfl)
 (hs:(Region.noSelect ops&&(Region.free md ops listed i&&(Region.ready md ops listed).contains i))=true:=by kernel_rfl)(hQ:∀c a w,Q (.panic c) (a.put oi.dst v) w->Q (.panic c) a w:=by exact λ_ _ _ h=>h)(hg:Region.wanted oi (yielded ops a.tmps)=true:=by rfl)
 (hy:∀w,S w->(execOp a.eval oi).run P w= .ok (.value v) w:=by intro w hSw;clear hSw;go_simp):wpAnyH P md ops Q S (fuel+1) listed a w:=by
 rw [Bool.and_eq_true,Bool.and_eq_true]at hs;exact wpAnyH_take hi hs.1 hs.2.1 hs.2.2 hQ (.inl ⟨hg,hy⟩) hS h
def lQ{w:World}{base n k:Nat}{v:Value}{e:TypeId}{xs:List Value}(h:w.ownsRow base e k v n xs):∀g,v.ownBlock=some g->base<=g/\g<w.heap.size:=λg eg=>by
 rcases h.2 with⟨h1,_⟩| ⟨g',cap,cur,h1,h2,h3,_⟩
 ·rw [h1]at eg;cases eg
 ·rw [h1]at eg;injection eg with eg
  rw [<-eg];exact⟨h2,(AB.1 h3).1⟩
def Gf.touch{w w':World}{base jb x d p L:Nat}{j:Jm}{G H:Nat->Prop}(h:Gf w base jb x d p L j G)(k:Touch H w w')(hH:∀b,H b->¬G b)(hx:¬H x)(hc1:¬H 0)(hc2:¬H 1):Gf w' base jb x d p L j G:=by
 obtain⟨F,v,hj,hG⟩:=h;exact⟨F,v,⟨⟨hj.ix.sys.keep k (λc hc hh=>hH c hh ((hG c).2 (.inl hc))) hc1 hc2,hj.ix.box.touch k hx,hj.ix.out⟩,hj.box.touch k (λhh=>hH _ hh ((hG _).2 (.inr (.inl rfl)))),Ie hj.row k (λg hg hh=>hH _ hh ((hG g).2 (.inr (.inr hg)))),hj.fj,hj.bj,hj.bx,hj.bt,hj.mj,hj.mF,hj.mb⟩,hG⟩
def Gf.base{w:World}{base jb x d p L:Nat}{j:Jm}{G:Nat->Prop}(h:Gf w base jb x d p L j G):x<w.heap.size/\0<w.heap.size/\1<w.heap.size:=by
 obtain⟨F,v,hj,hG⟩:=h;have:=hj.bx;have:=hj.bt;have:=hj.bj;have:=hj.box.lt;omega
structure Ah2(w:World)(G:Nat->Prop)(g:Nat)(way:List Pl):Prop where
 lt:g<w.heap.size
 out:¬G g
 at_:∀i(hi:i<way.length),∃a b c' d,(∀j u,[a,b,c',d,.int .i64 way[i].off,.int .u8 (way[i].label.toNat:Int),.int .i64 way[i].word][j]? =some u->w.cell? (Δ g (i*7+j))=some u)/\ax w G a b c' d way[i].nd
def UpB(pl:Pl):Bool:=(pl.nd.val.toNat==0)&&(pl.nd.kids.length==1)
def yU{way:List Pl}{a:Nat}{old:List Int}(h:a+1<way.length)(hu:UpB way[a]=true):H8 way (a+1) old=H8 way a (old++[way[a].off]):=by
 unfold UpB at hu;rw [Bool.and_eq_true,beq_iff_eq,beq_iff_eq]at hu;rw [H8,Af h,Af (by omega:a<way.length)];simp only;rw [if_pos ⟨Ec.1 (by simpa using hu.1),hu.2⟩]
def lS{way:List Pl}{a:Nat}{old:List Int}(h:a+1<way.length)(hu:UpB way[a]=false):H8 way (a+1) old=(a+1,old):=by
 unfold UpB at hu;rw [H8,Af h,Af (by omega:a<way.length)];simp only;rw [if_neg (λhh=>by
  rw [hh.1,hh.2]at hu;simp at hu)]
def iV{j:Jm}{way:List Pl}{n:Nat}{last:Pl}(hn:way.length=n+1)(hl:way[n]' O=last):OU j way=match H8 way n [last.off]with
 | (0,old)=>Fe j 0 72 0 old
 | (a+1,old)=>match way[a]?,way[a+1]? with
   | some up,some at_=>match J6 up.nd.labels at_.label with
     | some i=>if C9 up.nd then match Ei j (Wl up.nd i)with
      | (j1,name,e)=>Fe j1 e up.word name (old++[up.off])
       else(j.s,5)
     | none=>(j.s,5)
   | _,_=>(j.s,5):=by
 have e1:way.getLast? =some last:=by rw [List.getLast?_eq_getElem?,hn,Af O];exact congrArg some hl
 unfold OU;rw [e1,hn];rfl
def PrunePost(r:Ms×Int)(base jb x d p L:Nat)(G:Nat->Prop)(w:World)(e:Ending)(w':World):Prop:=
 e= .returned (.int .i64 r.2)/\∃j' G',j'.s=r.1/\Gf w' base jb x d p L j' G'/\AP G G' w w'
section
variable{w:World}{base jb x d p L:Nat}{j:Jm}{G:Nat->Prop}
def Ad3(h:Gf w base jb x d p L j G)(way:List Pl)(g cv:Nat)(h0:0<way.length)(hwl:way.length<=40)(hpl:∀pl∈way,Acu L pl)(hL:L<=1024)(hat:Ah2 w G g way)(hm:j.made.length<=100):
 Calls prog 112 #[Az jb,.slice (some (Φ g)) way.length cv] w (PrunePost (OU j way) base jb x d p L G w):=by
 have HJ:=Aa h;have HW:=Aa hat;have qG:=Aa hpl;obtain⟨n,hn⟩:∃n,way.length=n+1:=⟨way.length-1,O⟩;obtain⟨last,hla⟩:∃last,way[n]' O=last:=⟨_,rfl⟩;have HLa:Hid (∀h,way[n]'h=last):=Aa (λ_=>hla);obtain⟨R,hR⟩:∃R,H8 way n [last.off]=R:=⟨_,rfl⟩;have HR:=Aa hR;have hob:∀i(hi:i<way.length), -9223372036854775808<=way[i].off/\way[i].off<=9223372036854775807:=λi hi=>by
  obtain⟨o,ho,hol⟩:=(qG.out way[i] (BI hi)).off;rw [ho];omega
 have HOb:=Aa hob;obtain⟨a0,b0,c0,d0,hc0, -⟩:=hat.at_ n O;have z4:=hc0 4 _ rfl;rw [show way[n]' O=last from hla]at z4;obtain⟨nl,hnl⟩:∃nl,nl=way.length:=⟨_,rfl⟩;have HN:=Aa hn;have rV:=Aa hnl;have hwn:IntKind.i64.wrap ((nl:Int) -1)=(n:Int):=(wrap64 _ O O).trans O;have hx1:decide ((n:Int)<(nl:Int))=true:=decide_eq_true O;have hx2:n<nl:=O
 have hx3:(n:Int)<(nl:Int):=O
 obtain⟨W1,hW1,hb1,B1⟩:=EZ w 3 [.int .i64 last.off];have ho1:W1.ownsRow w.heap.size 3 1 (.slice (some (Φ w.heap.size)) 1 1) 1 [.int .i64 last.off]:=by
  rw [hW1];exact World.ownsRow_lit w #[.int .i64 last.off] 1 (Ad _) U rfl
 have HW1:=Aa hW1;have HB1:=Aa hb1;have HO1:=Aa ho1;clear hb1 ho1 B1 hW1 hla hR hob hc0 h hat hpl;rw [<-hnl];clear hn hnl;go_enter func112,ntmps112
 go_wp2_with fail
 go_loopw [5,6](λi u wr=>∃(a:Nat)(ol:List Int),i= .int .i64 (a:Nat)/\a<way.length/\ol.length+a=way.length/\H8 way a ol=R/\(∀o∈ol, -9223372036854775808<=o/\o<=9223372036854775807)/\wr.ownsRow w.heap.size 3 1 u ol.length (ol.map zv)/\η w wr)(λi _ _=>(intOf i).toNat)
 case atStart=>
  have:=HN.out;exact⟨n,[last.off],rfl,O,by simp;omega,HR.out,λo ho=>by rw [BD]at ho;subst ho;rw [<-HLa.out O];exact HOb.out n O,HW1.out▸HO1.out,HW1.out▸HB1.out⟩
 case round=>
  clear hwn hx1 hx2 hx3 z4;obtain⟨a,ol,rfl,hal,Axq,hgo,Atf,hown,hb⟩:=hrel;have ZZ:=Aa hgo;have HOs:=Aa Atf;have HO:=Aa hown;have HB:=Aa hb;clear hgo Atf hown hb;by_cases ha0:a=0
  ·have t1:decide ((0:Int)<(a:Int))=false:=decide_eq_false O;have t2:((a:Int)==0)=true:=by rw [beq_iff_eq];omega
   have hR0:R=(0,ol):=by have:=ZZ.out;rw [ha0]at this;exact this.symm
   have HP:Hid (OU j way=Fe j 0 72 0 ol):=Aa (by rw [iV HN.out (HLa.out (Ω HN.out)),HR.out,hR0]);obtain⟨A6,c6,rfl,hc6,Yr⟩:=Ale HO.out;have hO:Ja wr G A6 ol.length (ol.map zv):=⟨by rw [Nat.mul_one]at Yr;exact Yr,λ_ q eq hg=>by
    subst eq;have h1:=(HO.out.lt q.block rfl).1;have h2:=HJ.out.lt _ hg;omega⟩
   have hL1:16<=L:=by
    obtain⟨_,_,hjr,_⟩:=HJ.out;obtain⟨_,_,ok,_⟩:=hjr.ix.L0;have:=ok.fits;have:=ok.BM;omega
   have hfin:Calls prog 115 #[Az jb,.int .i64 0,.int .i64 72,.int .u64 0,.slice A6 ol.length c6] wr (Qz (Fe j 0 72 0 ol) base jb x d p L j G wr):=
    Q5 (HJ.out.below HB.out) 0 72 9 rfl O 0 A6 c6 ol hO HOs.out O O
   have HFin:=Aa hfin;clear Yr hO hfin hR0
   go_wp2_with fail
   refine HFin.out.mono ?_;rintro e w8⟨rfl,G8,hj8,WN⟩;have HD:=Aa (And.intro hj8 ((AP.of_below (F:=G) HB.out).trans WN));clear hj8 WN HFin
   go_wp2_with fail
   go_ret;refine⟨by rw [HP.out];rfl,_,G8,?_,HD.out.1,HD.out.2⟩;rw [HP.out]
  ·obtain⟨m,hma⟩:∃m,a=m+1:=⟨a-1,O⟩;have t1:decide ((0:Int)<(a:Int))=true:=decide_eq_true O;have hwm:IntKind.i64.wrap ((a:Int) -1)=(m:Int):=(wrap64 _ O O).trans O;have hml:m<way.length:=O
   have hx2:m<nl:=Ω rV.out
   have hx3:(m:Int)<(nl:Int):=O
   have hx1:decide ((m:Int)<(nl:Int))=true:=decide_eq_true hx3;obtain⟨up,hup⟩:∃up,way[m]=up:=⟨_,rfl⟩;obtain⟨a1,b1,c1,d1,hc1,hnd1⟩:=HW.out.at_ m hml;rw [hup]at hc1 hnd1;obtain⟨A1,p1,A2,p2,A3,p3,rfl,rfl,rfl,rfl,hpc,o1,o2,o3⟩:=hnd1;have hcw:∀j u,_->wr.cell? (Δ g (m*7+j))=some u:=λj u hj=>(HB.out.cell (p:=Δ g (m*7+j)) HW.out.lt).trans (hc1 j u hj)
   have z1:=hcw 1 _ rfl;have z3:=hcw 3 _ rfl;have z4:=hcw 4 _ rfl;have HOm:=Aa (HOb.out m hml);rw [hup]at HOm;have HUp:=Aa hup;cases hub:UpB up with
   | true=>
     have Ao2:=hub;unfold UpB at Ao2;rw [Bool.and_eq_true,beq_iff_eq,beq_iff_eq]at Ao2;have t3:((up.nd.val.toNat:Int)==0)=true:=by rw [beq_iff_eq];omega
     have t4:((up.nd.kids.length:Int)==1)=true:=by rw [beq_iff_eq];omega
     have Acs:Hid (H8 way m (ol++[up.off])=R):=Aa (by rw [<-hup,<-yU O (by rw [hup];exact hub),<-hma];exact ZZ.out);clear hub Ao2 hc1 hcw o1 o2 o3 hup;have hoz:ol.length<=40:=O
     go_wp2_with(at_builtin;refine Ep rfl (.tmp 46) (.tmp 52) 38 rfl Tryz.WO wr w.heap.size u6 ol.length (ol.map zv) [.int .i64 up.off] rfl (by exact HO.out) rfl wr.heap.size 1 rfl rfl rfl U (by intro u hu;simp at hu;subst hu;rfl) O U (by exact HB.out.size) ?_;intro g6 c6 w6 ZV O5 hK6 nC)
     have kP:=Aa ZV;have Me:=Aa (HB.out.trans O5);clear ZV O5 hK6 nC
     go_wp2_with fail
     go_roundw
     case rel=>exact⟨m,ol++[up.off],by go_num,O,by rw [AQ];simp;omega,Acs.out,λo ho=>by
      rcases AL.1 ho with ho| ho
      ·exact HOs.out o ho
      ·rw [BD]at ho;subst ho;exact HOm.out,by rw [AQ,Dx];exact kP.out,Me.out⟩
     case measure=>simp [intOf];omega
   | false=>
     have z0:=hcw 0 _ rfl;have z2:=hcw 2 _ rfl;have z5:=hcw 5 _ rfl;have z6:=hcw 6 _ rfl;rw [Nat.add_zero]at z0;have t2:((a:Int)==0)=false:=by rw [beq_eq_false_iff_ne];omega
     have hR0:R=(m+1,ol):=by
      have:=ZZ.out;rw [hma,lS O (by rw [hup];exact hub)]at this;exact this.symm
     obtain⟨at_,hat'⟩:∃at_,way[m+1]' O=at_:=⟨_,rfl⟩;have HP0:Hid (OU j way=match J6 up.nd.labels at_.label with
      | some i=>if C9 up.nd then match Ei j (Wl up.nd i)with
       | (j1,name,e)=>Fe j1 e up.word name (ol++[up.off])
        else(j.s,5)
      | none=>(j.s,5)):=Aa (by
      rw [iV HN.out (HLa.out (Ω HN.out)),HR.out,hR0];simp only;rw [Af hml,Af (by omega:m+1<way.length),hup,hat'])
     obtain⟨a2,b2,c2,d2,hc2, -⟩:=HW.out.at_ (m+1) O;rw [hat']at hc2;have y5:wr.cell? (Δ g (a*7+5))=some (.int .u8 (at_.label.toNat:Int)):=by
      rw [hma];exact(HB.out.cell (p:=Δ g ((m+1)*7+5)) HW.out.lt).trans (hc2 5 _ rfl)
     have hy1:a<nl:=Ω rV.out
     have hy2:(a:Int)<(nl:Int):=O
     have hy3:decide ((a:Int)<(nl:Int))=true:=decide_eq_true hy2;have Ad4:=qG.out up (by rw [<-hup];exact BI _);have Asw:=((Bq _).1 Ad4.right).1;have Asx:=Ad4.kids;have Asy:=Ad4.labels;have hor:C9 up.nd=true:=Ad4.right;have HUl:=Aa Ad4;have hbu:((up.nd.val.toNat:Int)==0)=true/\((up.nd.kids.length:Int)==1)=false\/((up.nd.val.toNat:Int)==0)=false:=by
      unfold UpB at hub;by_cases hv:up.nd.val.toNat=0
      ·refine .inl ⟨by rw [beq_iff_eq];omega,?_⟩;rw [hv]at hub;rw [beq_eq_false_iff_ne];intro e;have:up.nd.kids.length=1:=O
       rw [this]at hub;simp at hub
      ·exact .inr (by rw [beq_eq_false_iff_ne];omega)
     obtain⟨ok,WR,HWi,HP,HLn⟩:∃(ok:Bool)(WR:Nd),Hid (∀W,η w W->Calls prog 158 #[.agg #[.slice A1 up.nd.pre.length p1,.int .u64 (up.nd.val.toNat:Int),.slice A2 up.nd.labels.length p2,.slice A3 up.nd.kids.length p3],.int .u8 (at_.label.toNat:Int)] W λe w'=>
      ∃A4 n4 c4 z4 A5 n5 c5 A6 n6 c6,e= .returned (.tuple #[.agg #[.slice A4 n4 c4,.int .u64 z4,.slice A5 n5 c5,.slice A6 n6 c6],.bool ok])/\η W w'/\(ok=true->XF w' (W.heap.size+2) (.agg #[.slice A4 n4 c4,.int .u64 z4,.slice A5 n5 c5,.slice A6 n6 c6]) WR))/\
      Hid (OU j way=if ok=true then(match Ei j WR with| (j1,name,e)=>Fe j1 e up.word name (ol++[up.off]))else(j.s,5))/\Hid (WR.pre.length<=1000/\WR.labels.length<=1000/\WR.kids.length<=1000):=by
      have g1:=λW(hW:η w W)=>(Rd.below o1.1 hW:Bs W A1 up.nd.pre.length up.nd.pre)
      have g2:=λW(hW:η w W)=>(Rd.below o2.1 hW:Bs W A2 up.nd.labels.length up.nd.labels)
      have g3:=λW(hW:η w W)=>(Rd.below o3.1 hW:Ws W A3 up.nd.kids.length up.nd.kids)
      cases hf:J6 up.nd.labels at_.label with
      | none=>
        refine⟨false,up.nd,Aa (λW hW=>(yj A1 A2 A3 up.nd.pre.length p1 up.nd.labels.length p2 up.nd.kids.length p3 up.nd at_.label W O O O (g1 W hW) (g2 W hW) (g3 W hW) (.inl hf)).mono ?_),Aa (by rw [HP0.out,hf];rfl),Aa ⟨O,O,O⟩⟩;rintro e w'⟨rfl,hb⟩;exact⟨none,0,0,0,none,0,0,none,0,0,rfl,hb,λh=>Bool.noConfusion h⟩
      | some i=>
        refine⟨true,Wl up.nd i,Aa (λW hW=>(qP A1 A2 A3 up.nd.pre.length p1 up.nd.labels.length p2 up.nd.kids.length p3 up.nd at_.label i W O O O (g1 W hW) (g2 W hW) (g3 W hW) hf hor).mono ?_),Aa (by rw [HP0.out,hf];simp only;rw [if_pos hor];rfl),Aa ⟨by show up.nd.pre.length<=1000;omega,by unfold Wl J7;simp;omega,by unfold Wl J7;simp;omega⟩⟩;rintro e w'⟨⟨A4,c4,A7,c7,A8,c8,rfl,s1,s2,s3⟩,hb⟩;exact⟨A4,_,c4,_,A7,_,c7,A8,_,c8,rfl,hb,λ_=>⟨A4,c4,A7,c7,A8,c8,rfl,s1,s2,s3⟩⟩
     obtain⟨W2,hW2,hb2,B2⟩:=EZ wr 214 [.slice A1 up.nd.pre.length p1,.int .u64 (up.nd.val.toNat:Int),.slice A2 up.nd.labels.length p2,.slice A3 up.nd.kids.length p3,.int .i64 up.off,.int .u8 (up.label.toNat:Int),.int .i64 up.word];have HB2:=Aa (τ HB.out hb2);have v5:W2.cell? (Δ g (a*7+5))=some (.int .u8 (at_.label.toNat:Int)):=(hb2.cell (p:=Δ g (a*7+5)) (BQ HW.out.lt HB.out.size)).trans y5;have dE:=HW.out.lt;have SY:=Aa (lN HO.out hb2);have TV:=Aa B2;have HK:Hid (∀X,η W2 X->X.cell? (Φ wr.heap.size)=some (.slice A1 up.nd.pre.length p1)/\X.cell? (Δ wr.heap.size 1)=some (.int .u64 (up.nd.val.toNat:Int))/\X.cell? (Δ wr.heap.size 2)=some (.slice A2 up.nd.labels.length p2)/\X.cell? (Δ wr.heap.size 3)=some (.slice A3 up.nd.kids.length p3)/\X.cell? (Δ g (a*7+5))=some (.int .u8 (at_.label.toNat:Int))):=Aa (λX k=>⟨(B2.ξ k).cell 0,(B2.ξ k).cell 1,(B2.ξ k).cell 2,(B2.ξ k).cell 3,(k.cell (p:=Δ g (a*7+5)) (BQ dE HB2.out.size)).trans v5⟩);have HW2:=Aa hW2;have HMa:=Aa hma;have hs2:wr.heap.size+1=W2.heap.size:=by rw [hW2];simp
     have HS2:=Aa hs2;have HHc:=Aa hcw;have HJl:Hid (∀b,G b->b<w.heap.size):=Aa HJ.out.lt;clear hub hc1 hcw hup hc2 hat' hR0 Ad4 hb2 B2 hW2 hma hs2 o1 o2 o3 v5;have hgo:∀(Q:Prop),(∀(_:((up.nd.val.toNat:Int)==0)=true)(_:((up.nd.kids.length:Int)==1)=false),Q)->(∀(_:((up.nd.val.toNat:Int)==0)=false),Q)->Q:=λQ h1 h2=>by
      rcases hbu with⟨h,k⟩| h
      ·exact h1 h k
      ·exact h2 h
     clear hbu;refine hgo _ (λt3 t4=> ?_) (λt3=> ?_)
     all_goals(
      clear hgo
      go_wp2_with fail
      rw [<-HW2.out]
      go_cut [8,9](λs8 s9 wx=>∃x8 A4 n4 c4 z4 A5 n5 c5 A6 n6 c6,s8=Az x8/\s9= .bool ok/\CS wx x8 212 [.slice A4 n4 c4,.int .u64 z4,.slice A5 n5 c5,.slice A6 n6 c6]/\η W2 wx/\(ok=true->XF wx W2.heap.size (.agg #[.slice A4 n4 c4,.int .u64 z4,.slice A5 n5 c5,.slice A6 n6 c6]) WR))
      case first=>
       refine wp_region_held_drew (S:=(λw'=>w'.cell? (Φ wr.heap.size)=some (.slice A1 up.nd.pre.length p1)/\w'.cell? (Δ wr.heap.size 1)=some (.int .u64 (up.nd.val.toNat:Int))/\w'.cell? (Δ wr.heap.size 2)=some (.slice A2 up.nd.labels.length p2)/\w'.cell? (Δ wr.heap.size 3)=some (.slice A3 up.nd.kids.length p3)/\w'.cell? (Δ g (a*7+5))=some (.int .u8 (at_.label.toNat:Int)))) Γ (HK.out _ ((Dr.drew W2).below _)) (λhHeld=> ?_);refine Eo 0 (Az wr.heap.size) hHeld ?_
       try simp only [Act.put,Ap,Ag,Ae,Aj,Aq]
       refine Eo 1 (.agg #[.slice A1 up.nd.pre.length p1,.int .u64 (up.nd.val.toNat:Int),.slice A2 up.nd.labels.length p2,.slice A3 up.nd.kids.length p3]) hHeld (hy:=λw hSw=>by obtain⟨s0,s1,s2,s3,s4⟩:=hSw;go_simp) ?_
       try simp only [Act.put,Ap,Ah,Ag,Ae,Aj,Aq]
       refine Eo 2 (.slice (some (Φ g)) nl cv) hHeld ?_
       try simp only [Act.put,Ap,Ah,Ag,Ae,Aj,Aq]
       refine Eo 3 (.int .i64 (a:Nat)) hHeld ?_
       try simp only [Act.put,Ap,Ah,Ag,Ae,Aj,Aq]
       refine Eo 4 (.pointer (some (Δ g (a*7)))) hHeld ?_
       try simp only [Act.put,Ap,Ah,Ag,Ae,Aj,Aq]
       refine Eo 5 (.pointer (some (Δ g (a*7+5)))) hHeld ?_
       try simp only [Act.put,Ap,Ah,Ag,Ae,Aj,Aq]
       refine Eo 6 (.int .u8 (at_.label.toNat:Int)) hHeld (hy:=λw hSw=>by obtain⟨s0,s1,s2,s3,s4⟩:=hSw;go_simp) ?_
       try simp only [Act.put,Ap,Ah,Ag,Ae,Aj,Aq]
       refine wpAnyH_ready (rs:=[7,11]) Γ Θ ?_;refine AllReadyH.cons rfl (λK hK=> ?_) (AllReadyH.cons rfl (λK hK=> ?_) AllReadyH.nil)
       ·go_simp;refine(HWi.out _ (τ HB2.out ((Dr.drew W2).below _))).mono ?_;rintro e w3⟨A4,n4,c4,z4,A5,n5,c5,A6,n6,c6,rfl,hb3,hN3⟩;have hbb:η W2 w3:=((Dr.drew W2).below _).trans hb3;refine hK.out _ _ (HK.out _ hbb) (λhHeld=> ?_);clear hK K
        try simp only [Act.put,Ap,Ah,Ag,Ae,Aj,Aq]
        refine Eo 8 (.tuple #[.agg #[.slice A4 n4 c4,.int .u64 z4,.slice A5 n5 c5,.slice A6 n6 c6],.bool ok]) hHeld ?_
        try simp only [Act.put,Ap,Ah,Ag,Ae,Aj,Aq]
        refine Eo 9 (.agg #[.slice A4 n4 c4,.int .u64 z4,.slice A5 n5 c5,.slice A6 n6 c6]) hHeld ?_
        try simp only [Act.put,Ap,Ah,Ag,Ae,Aj,Aq]
        refine Eo 10 (.bool ok) hHeld ?_
        try simp only [Act.put,Ap,Ah,Ag,Ae,Aj,Aq]
        refine wpAnyH_ready (rs:=[11]) Γ Θ ?_;refine AllReadyH.cons rfl (λK hK=> ?_) AllReadyH.nil;go_simp;refine hK.out _ _ (HK.out _ (hbb.alloc hbb.size _)) (λhHeld=> ?_);clear hK K
        try simp only [Act.put,Ap,Ah,Ag,Ae,Aj,Aq]
        refine wpAnyH_ready (rs:=[12]) Γ Θ ?_;refine AllReadyH.cons rfl (λK hK=> ?_) AllReadyH.nil;go_simp;obtain⟨W5,ny⟩:∃W5,W5=w3.alloc (.cells #[.slice A4 n4 c4,.int .u64 z4,.slice A5 n5 c5,.slice A6 n6 c6] 212):=⟨_,rfl⟩;rw [<-ny];have Atg:η w3 W5:=ny▸(Below.refl _ _).alloc (Ad _) _;have pq:CS W5 w3.heap.size 212 [.slice A4 n4 c4,.int .u64 z4,.slice A5 n5 c5,.slice A6 n6 c6]:=ny▸heap_alloc_new _ _;have Ah3:=τ hbb Atg;have hN5:ok=true->XF W5 W2.heap.size (.agg #[.slice A4 n4 c4,.int .u64 z4,.slice A5 n5 c5,.slice A6 n6 c6]) WR:=λh=>((hN3 h).below Atg).mono (by have:W2.drew.heap.size=W2.heap.size:=rfl;omega)
        clear ny;refine hK.out _ _ (HK.out _ Ah3) (λhHeld=> ?_);clear hK K
        try simp only [Act.put,Ap,Ah,Ag,Ae,Aj,Aq]
        refine Eo 13 (.bool ok) hHeld ?_
        try simp only [Act.put,Ap,Ah,Ag,Ae,Aj,Aq]
        refine wpAnyH_done Γ ?_ _
        go_wp2_with fail
        go_meet
        exact⟨w3.heap.size,A4,n4,c4,z4,A5,n5,c5,A6,n6,c6,rfl,rfl,pq,Ah3,hN5⟩
       ·go_simp;obtain⟨W4,VV⟩:∃W4,W4=(W2.alloc (.cells #[.slice none 0 0,.int .u64 0,.slice none 0 0,.slice none 0 0] 212)).drew:=⟨_,rfl⟩;rw [<-VV];have hb4:η W2 W4:=by rw [VV];exact((Below.refl W2.heap.size W2).alloc (Ad _) _).drew
        have hB4:CS W4 W2.heap.size 212 [.slice none 0 0,.int .u64 0,.slice none 0 0,.slice none 0 0]:=by rw [VV];exact heap_alloc_new W2 (.cells #[.slice none 0 0,.int .u64 0,.slice none 0 0,.slice none 0 0] 212)
        have hs4:=hB4.lt;clear VV;refine hK.out _ _ (HK.out _ hb4) (λhHeld=> ?_);clear hK K
        try simp only [Act.put,Ap,Ah,Ag,Ae,Aj,Aq]
        refine wpAnyH_ready (rs:=[7]) Γ Θ ?_;refine AllReadyH.cons rfl (λK hK=> ?_) AllReadyH.nil;go_simp;refine(HWi.out _ (τ HB2.out hb4)).mono ?_;rintro e w3⟨A4,n4,c4,z4,A5,n5,c5,A6,n6,c6,rfl,hb3,hN3⟩;have hbb:η W2 w3:=τ hb4 hb3;have hB3:=hB4.below hb3 hs4;refine hK.out _ _ (HK.out _ hbb) (λhHeld=> ?_);clear hK K
        try simp only [Act.put,Ap,Ah,Ag,Ae,Aj,Aq]
        refine Eo 8 (.tuple #[.agg #[.slice A4 n4 c4,.int .u64 z4,.slice A5 n5 c5,.slice A6 n6 c6],.bool ok]) hHeld ?_
        try simp only [Act.put,Ap,Ah,Ag,Ae,Aj,Aq]
        refine Eo 9 (.agg #[.slice A4 n4 c4,.int .u64 z4,.slice A5 n5 c5,.slice A6 n6 c6]) hHeld ?_
        try simp only [Act.put,Ap,Ah,Ag,Ae,Aj,Aq]
        refine Eo 10 (.bool ok) hHeld ?_
        try simp only [Act.put,Ap,Ah,Ag,Ae,Aj,Aq]
        obtain⟨z0',z1',z2',z3',Yt,Yu,dR,dS⟩:=CG hB3;refine wpAnyH_ready (rs:=[12]) Γ Θ ?_;refine AllReadyH.cons rfl (λK hK=> ?_) AllReadyH.nil;go_simp;obtain⟨W5,ny,pq,Av6,hk5⟩:=Ac6 hB3 hbb (Ad _) (.slice A4 n4 c4) (.int .u64 z4) (.slice A5 n5 c5) (.slice A6 n6 c6);rw [<-ny];have Ah3:=Av6;have hN5:ok=true->XF W5 W2.heap.size (.agg #[.slice A4 n4 c4,.int .u64 z4,.slice A5 n5 c5,.slice A6 n6 c6]) WR:=λh=>by
         obtain⟨A7,c7,A8,c8,A9,c9,e,s1,s2,s3⟩:=hN3 h;exact⟨A7,c7,A8,c8,A9,c9,e,ES (KP s1 hk5 O) O,ES (KP s2 hk5 O) O,ES (KP s3 hk5 O) O⟩
        clear ny;refine hK.out _ _ (HK.out _ Ah3) (λhHeld=> ?_);clear hK K
        try simp only [Act.put,Ap,Ah,Ag,Ae,Aj,Aq]
        refine Eo 13 (.bool ok) hHeld ?_
        try simp only [Act.put,Ap,Ah,Ag,Ae,Aj,Aq]
        refine wpAnyH_done Γ ?_ _
        go_wp2_with fail
        go_meet
        exact⟨W2.heap.size,A4,n4,c4,z4,A5,n5,c5,A6,n6,c6,rfl,rfl,pq,Ah3,hN5⟩
      case rest=>
       obtain⟨x8,A4,n4,c4,z4,A5,n5,c5,A6,n6,c6,hs8,hs9,YH,hb8,hN8⟩:=hcut;subst hs8;subst hs9;have HBc:=Aa (τ HB2.out hb8);cases ok with
       | false=>
         clear hN8 YH hb8
         go_wp2_with fail
         go_ret;refine⟨by rw [HP.out];rfl,j,G,?_,HJ.out.below HBc.out,AP.of_below HBc.out⟩;rw [HP.out];rfl
       | true=>
         obtain⟨A7,c7,A8,c8,A9,c9,e,s1,s2,s3⟩:=hN8 rfl;simp at e;obtain⟨⟨rfl,rfl,rfl⟩,ez,⟨rfl,rfl,rfl⟩,rfl,rfl,rfl⟩:=e;obtain⟨R8,hR8⟩:∃R,Ei j WR=R:=⟨_,rfl⟩;have hbd:=LK (HJ.out.below HBc.out) WR A4 A5 A6 c4 c5 c6 HLn.out.1 HLn.out.2.1 HLn.out.2.2 (CP s1).2 (CP s2).2 (CP s3).2 O;have HMd:Hid ((Ei j WR).1.made.length<=j.made.length+1):=Aa (Ir j WR);rw [hR8]at hbd HP HMd;rw [ez]at YH;obtain⟨j1,name,eb⟩:=R8;rw [if_pos rfl]at HP;unfold I5 at hbd;simp only at HP HMd hbd;have HBd:=Aa hbd;obtain⟨q0,q1,q2,q3,f0,f1,f2,f3⟩:=CG YH;have HBp:=Aa (TV.out.ξ hb8);have HOc:=Aa (lN SY.out hb8);clear hN8 YH hb8 s1 s2 s3 ez hR8 hbd
         go_wp2_with fail
         refine HBd.out.mono ?_;rintro e w8⟨rfl,G8,hj8,WN⟩;have Av7:=HBc.out.size;have Axr:=HB.out.size;have B9:=HBp.out.touch WN.touch (λh=>Ω (HJl.out _ h));have d4:=B9.cell 4;have d6:=B9.cell 6;have Axs:=HBp.out.lt;simp only [List.getElem?_cons_zero,List.getElem?_cons_succ]at d4 d6;have hO9:=Ie HOc.out WN.touch (λq hq h=>Ψ (HJl.out _ h) ((lQ HOc.out q hq).1));have kz:Hid (∀X,η w8 X->X.ownsRow w.heap.size 3 1 u6 ol.length (ol.map zv)):=Aa (λX k=>lN hO9 k);have hn8:∀q,u6.ownBlock=some q->¬G8 q:=λq hq h=>by
          have h1:=lQ HOc.out q hq;rcases WN.own q h with h2| h2
          ·have:=HJl.out _ h2;omega
          ·omega
         have hn9:∀q,u6.ownBlock=some q->w.heap.size<=q/\q≠wr.heap.size:=λq hq=>by
          refine⟨(lQ HOc.out q hq).1,λe=> ?_⟩;have:=(lQ HO.out q hq).2;omega
         have hbs:=HJ.out.base;have nG:Hid (∀X,Touch (λq=>u6.ownBlock=some q) w8 X->X.cell? (Δ wr.heap.size 4)=some (.int .i64 up.off)/\X.cell? (Δ wr.heap.size 6)=some (.int .i64 up.word)):=Aa (λX k=>⟨(B9.touch k (λe=>(hn9 _ e).2 rfl)).cell 4,(B9.touch k (λe=>(hn9 _ e).2 rfl)).cell 6⟩);have Av8:¬G8 wr.heap.size:=λh=>by
          rcases WN.own _ h with h2| h2
          ·have:=HJl.out _ h2;omega
          ·omega
         have HKm:Hid (∀X Y,Touch (λq=>u6.ownBlock=some q) w8 X->Touch G8 X Y->Y.cell? (Δ wr.heap.size 4)=some (.int .i64 up.off)/\Y.cell? (Δ wr.heap.size 6)=some (.int .i64 up.word)):=Aa (λX Y k k2=>
          have B10:=(B9.touch k (λe=>(hn9 _ e).2 rfl)).touch k2 Av8
          ⟨B10.cell 4,B10.cell 6⟩)
         have HJX:Hid (∀X,Touch (λq=>u6.ownBlock=some q) w8 X->Gf X base jb x d p L j1 G8):=Aa (λX k=>hj8.touch k hn8 (λe=>Ω ((hn9 _ e).1)) (λe=>Ω ((hn9 _ e).1)) (λe=>Ω ((hn9 _ e).1)));have HMv:Hid (∀X,Touch (λq=>u6.ownBlock=some q) w8 X->AP G G8 w X):=Aa (λX k=>⟨((AP.of_below HBc.out).trans WN).touch.trans k (λq hq=> .inr (hn9 q hq).1),((AP.of_below HBc.out).trans WN).own⟩);have uO:Hid (∀q,u6.ownBlock=some q\/w8.heap.size<=q->¬G8 q):=Aa (λq h1 h=>h1.elim (λh2=>hn8 q h2 h) (λh2=>Ω (hj8.lt q h)));have hlen:(ol++[up.off]).length=ol.length+1:=by simp
         obtain⟨jw,dU,hjl⟩:=HUl.out.word;have HFin:Hid (∀X A c,Touch (λq=>u6.ownBlock=some q) w8 X->X.ownsRow w.heap.size 3 1 (.slice A (ol.length+1) c) (ol.length+1) (ol.map zv++[.int .i64 up.off])->(∀a,A=some a->¬G8 a.block)->Calls prog 115 #[Az jb,.int .i64 eb,.int .i64 up.word,.int .u64 (name.toNat:Int),.slice A (ol.length+1) c] X (Qz (Fe j1 eb up.word name (ol++[up.off])) base jb x d p L j1 G8 X)):=Aa (λX A c k hX hA=>by
          rw [<-hlen];refine Q5 (HJX.out X k) eb up.word jw dU hjl name A c (ol++[up.off]) ⟨?_,λ_ a ea=>hA a ea⟩ (λo ho=> ?_) O (Ω HMd.out)
          ·rw [Dx,hlen];exact(CP hX).2
          ·rcases AL.1 ho with ho| ho
           ·exact HOs.out o ho
           ·rw [BD]at ho;subst ho;exact HOm.out)
         have Av9:w.heap.size<=w8.heap.size:=Bc Av7 WN.touch.size;clear dU hjl hlen hj8 WN B9 hO9 hbs HBd q0 q1 q2 q3 f0 f1 f2 f3
         go_wp2_with fail
         go_region_held_law(λw'=>w'.cell? (Δ wr.heap.size 4)=some (.int .i64 up.off)/\w'.cell? (Δ wr.heap.size 6)=some (.int .i64 up.word))
          (first| exact⟨d4,d6⟩| exact nG.out _ (Touch.refl _ _)| exact nG.out _ (Touch.of_below ((Dr.drew w8).below _))| exact nG.out _ (Touch.of_below (((Dr.drew w8).below _).alloc (Ad _) _))| exact HKm.out _ _ ht9 Ao3.touch| exact nG.out _ ht9)
          (first
          | (refine N9 rfl (.tmp 88) (.tmp 91) 38 rfl Tryz.WO w8 w.heap.size u6 ol.length (ol.map zv) [.int .i64 up.off] (by simp [Act.eval]) (kz.out _ (Below.refl _ _)) rfl rfl rfl rfl w8.heap.size 1 (by simp [Act.eval]) rfl rfl U (by intro u hu;simp at hu;subst hu;rfl) O U Av9 ?_;intro g9 c9 w9 hO9 hB9 hK9 hg9;have ht9:Touch (λq=>u6.ownBlock=some q) w8 w9:=⟨hB9.os,hB9.tape,hB9.output,hB9.size,λq hq hn=>hK9.2 q hq (λe=>hn e.symm)⟩;have Awa:∀a,some ((Φ g9):Addr)=some a->¬G8 a.block:=λa ea=>by injection ea with ea;subst ea;exact uO.out _ hg9)
          | (go_at_call 115;refine(HFin.out w9 (some (Φ g9)) c9 ht9 hO9 Awa).mono ?_;rintro e w10 hfp;obtain⟨he,G10,Ath,Ao3⟩:=hfp;subst he))
         all_goals(
          have HMw:=Aa ((HMv.out _ ht9).trans Ao3);have HJw:=Aa Ath;clear ht9 Ao3 Ath hO9 hB9 hK9
          go_wp2_with fail
          go_ret;refine⟨by rw [HP.out];rfl,_,G10,?_,HJw.out,HMw.out⟩;rw [HP.out]))
end
def Ah2.Ati{w w1 W:World}{F:Nat->Prop}{g:Nat}{way:List Pl}(hF:∀b,F b->b<w.heap.size)(hg:w.heap.size<=g)(hgl:g<w1.heap.size)(k:η w1 W){J:Nat}(hJ:w1.heap.size<=J)
 (hat:∀i(hi:i<way.length),∃a b c' d,Aah w1 w.heap.size g i way[i] a b c' d):Ah2 W (λb=>F b\/b=J) g way:=by
 refine⟨BQ hgl k.size,λh=>h.elim (λh=>Ω (hF _ h)) (λh=>O),λi hi=> ?_⟩;obtain⟨a,b,c',d,hc⟩:=hat i hi;refine⟨a,b,c',d,λj u hj=> ?_,?_⟩
 ·rw [k.cell (p:=Δ g (i*7+j)) hgl,Nat.mul_comm];exact hc.cells j u hj
 ·have q0:ax w1 (λb=>F b\/b=J) a b c' d way[i].nd:=ax.Asb hc.nd (λb hb hbl hf=>hf.elim (λh=>Ω (hF _ h)) (λh=>O));exact q0.moved (AP.of_below k)
def Gf.done2{w W w':World}{base jb x d p L:Nat}{j:Jm}{F G G':Nat->Prop}(h:Gf w' base jb x d p L j G')(m:AP G G' W w')(hb:η w W)(hG:∀b,G b->F b\/w.heap.size<=b):∃F',IxM w' x d p L j.s F'/\AP F F' w w'/\∀b,F' b->G' b:=by
 obtain⟨F',v,hj,hG'⟩:=h;have hs:=hb.size;refine⟨F',hj.ix,⟨(Touch.of_below hb).trans m.touch hG,λb hb'=> ?_⟩,λb hb=>(hG' b).2 (.inl hb)⟩;rcases m.own b ((hG' b).2 (.inl hb'))with h1| h1
 ·exact hG b h1
 ·exact .inr O
section
variable{w:World}{x d p L:Nat}{s:St}{F:Nat->Prop}{lf:Int}
def yV(h:Jd (.up (MU lf)) w x d p L s F)(key:ByteArray)(h16:¬16<key.size){way:List Pl}{rest:List UInt8}{last:Pl}(hpa:FY s key.data.toList=some (way,rest))(hst:CZ way rest=some last)(hv0:last.nd.val≠0)(hk0:last.nd.kids.length=0):
 Calls prog 70 #[Az x,.string key] w (aP (RJ ⟨.up lf,s⟩ key.data.toList) x d p L F w):=by
 have HX:=Aa h;have HA:=Aa (KA h key O);have hkl:=Q7 key;rw [if_neg h16]at HA;obtain⟨l0,l1,ok,FZ⟩:=h.L0;have Aha:16<=L:=Ψ ok.fits ok.BM
 have TW:=Aa (JY h key O);obtain⟨JF,hrl⟩:=Tj ok O FZ hpa;have hwl:=PK hpa;rw [hkl]at hrl hwl;replace hrl:rest.length<=32:=O
 replace hwl:way.length<=33:=O
 have hpre:∀pl∈way,pl.nd.pre.length<=1000:=λpl hm=>Ω (((Bq _).1 (JF pl hm).right).1)
 have HPk:=Aa JF;have yt:=Aa hpre;have aA:=Aa hpa;have hxl:=h.box.lt;have kX:=Aa h.sys.tabs.lt;have MC:=Aa h.sys.lt;have hmem:last∈way:=by
  have h2:=hst;unfold CZ at h2;split at h2
  ·cases h2
  ·rename_i l hl;split at h2
   ·injection h2 with h2;subst h2;exact List.mem_of_getLast? hl
   ·cases h2
 have h0:0<way.length:=List.length_pos_of_mem hmem;have qG:=Aa (JF last hmem);have MX:=Aa hst;have t1:((last.nd.val.toNat:Int)==0)=false:=by
  rw [beq_eq_false_iff_ne];intro e;exact hv0 (Ec.1 (by simp;omega))
 have t2:((last.nd.kids.length:Int)==0)=true:=by rw [beq_iff_eq];omega
 obtain⟨R,hR⟩:∃R,OU ⟨⟨.up lf,s⟩,[]⟩ way=R:=⟨_,rfl⟩;obtain⟨s1,er⟩:=R;have HR:=Aa hR;obtain⟨⟨q2,vc⟩,hvr⟩:∃R,Ob s1 last 0=R:=⟨_,rfl⟩;have HVr:=Aa hvr;have HP:Hid (RJ ⟨.up lf,s⟩ key.data.toList=if er=6 then(if vc=0 then(q2,last.nd.val,0)else(q2,0,vc))else if er=0 then(s1,last.nd.val,0)else(s1,0,er)):=Aa (by
  unfold RJ;rw [hkl,if_neg h16];simp only [hpa,hst,if_neg hv0,if_pos hk0,hR,hvr])
 clear hvr;clear h hkl ok FZ hpa hst JF hpre hmem hR hk0 hv0;go_enter func70,ntmps70
 go_wp2_with fail
 refine HA.out.mono ?_;rintro e w1⟨rfl,rfl⟩;clear HA
 go_wp2_with fail
 refine TW.out.mono ?_;rintro e w1⟨hb1,hp1⟩;rw [aA.out]at hp1;obtain⟨vw,A,c,rfl,JE,hrs,hrc⟩:=hp1;have HW1:=Aa JE;have HR1:=Aa hrs;have HB1:=Aa hb1;clear JE hrs hb1 TW
 go_wp2_with fail
 refine(Ht HW1.out O yt.out HR1.out.1 O).mono ?_;rintro e w2⟨hb2,hp2⟩;rw [MX.out]at hp2;obtain⟨a,b,c',d',rfl,hnd⟩:=hp2;obtain⟨A1,m1,A2,m2,A3,m3,e,o1,o2,o3⟩:=hnd;simp only [Value.agg.injEq]at e;simp at e;obtain⟨rfl,rfl,rfl,rfl⟩:=e;obtain⟨g,cv,rfl,hcv,hbg,hgw,hat⟩:=HW1.out.at (λe=>by rw [e]at h0;exact absurd h0 (Nat.lt_irrefl 0));have HB2:=Aa (τ HB1.out hb2);obtain⟨W3,hW3,hb3,B3⟩:=EZ w2 214 [.slice A1 last.nd.pre.length m1,.int .u64 (last.nd.val.toNat:Int),.slice A2 last.nd.labels.length m2,.slice A3 last.nd.kids.length m3,.int .i64 last.off,.int .u8 (last.label.toNat:Int),.int .i64 last.word];have HB3:=Aa (τ HB2.out hb3);have hs3:w2.heap.size+1=W3.heap.size:=by rw [hW3];simp
 obtain⟨W4,VV,hb4, -⟩:=EZ W3 219 [Az x,.slice none 0 0];have HB4:=Aa (τ HB3.out hb4);have hsz3:=HB3.out.size;have hJ:=kV (q:=⟨.up lf,s⟩) (HX.out.below HB4.out) VV (λb hb=>Ω (MC.out b hb)) O (Ω kX.out);have Yv:η w1 W4:=τ hb2 (τ hb3 hb4);have Atj:w1.heap.size<=W3.heap.size:=Bc hb2.size hb3.size;have hWy:Ah2 W4 (λb=>F b\/b=W3.heap.size) g way:=Ah2.Ati MC.out hbg hgw Yv Atj hat;have xn:=Aa (Ad3 hJ way g cv h0 O HPk.out l1 hWy Θ);rw [HR.out]at xn;have B4:=B3.ξ hb4;obtain⟨y0,y1,y2,y3,y4,y5,y6⟩:=EI B3;obtain⟨x0,x1,x2,x3,x4,x5,x6⟩:=EI B4;have Atk:=Aa B4;have HW3:=Aa hW3;have YE:=Aa VV;have Ph:=Aa hs3;rw [hW3]at y0 y1 y2 y3 y4 y5 y6;clear o1 o2 o3 hb2 hb3 B3 B4 hW3 VV hb4 hJ Yv Atj hWy hat hcv hbg hgw hs3
 go_wp2_with fail
 rw [<-HW3.out,<-YE.out];rw [show w2.heap.size+1=W3.heap.size from Ph.out];refine xn.out.mono ?_;rintro e w5⟨rfl,j5,G5,hj5,Atl,Qw⟩;simp only at hj5⊢;have hsz2:=HB2.out.size;obtain⟨F5,hx5,Atm,hf5⟩:=Atl.done2 Qw HB4.out (λb hb=>hb.imp id (λe=>O));have hn5:¬F5 w2.heap.size:=λhf=>by
  have:=Ph.out;have:=Atk.out.lt;rcases Qw.own _ (hf5 _ hf)with(h1| h1)| h1
  ·have:=MC.out _ h1;omega
  ·omega
  ·omega
 rw [hj5]at hx5;have HF5:=Aa (And.intro hx5 Atm);have B5:=Atk.out.touch Qw.touch (λhg=>by
  have:=Ph.out;rcases hg with hg| hg
  ·have:=MC.out _ hg;omega
  ·omega)
 have Awb:=Aa B5;obtain⟨z0,z1,z2,z3,z4,z5,z6⟩:=EI B5;clear hx5 Atm Atl Qw xn B5 x0 x1 x2 x3 x4 x5 x6 y0 y1 y2 y3 y4 y5 y6 hj5;by_cases h6:er=6
 ·subst h6;rw [if_pos rfl]at HP;have HV:=Qx (q:=s1) HF5.out.1 last (qG.out) A1 A2 A3 last.nd.pre.length m1 last.nd.labels.length m2 last.nd.kids.length m3 0;rw [HVr.out]at HV;have HV:=Aa HV
  go_wp2_with fail
  refine HV.out.mono ?_;rintro e w6⟨rfl,F6,hx6,VX⟩;have HF:=Aa (And.intro hx6 (HF5.out.2.trans VX));have B6:=Awb.out.touch VX.touch hn5;obtain⟨k0,k1,k2,k3,k4,k5,k6⟩:=EI B6;clear hx6 VX B6 HV z0 z1 z2 z3 z4 z5 z6;by_cases hvc:vc=0
  ·subst hvc;rw [if_pos rfl]at HP
   go_wp2_with fail
   go_ret2;refine⟨by rw [HP.out];rfl,F6,?_,HF.out.2⟩;rw [HP.out];exact HF.out.1
  ·rw [if_neg hvc]at HP;have t8:(vc==0)=false:=by rw [beq_eq_false_iff_ne];exact hvc
   have t9:(vc !=0)=true:=by rw [bne_iff_ne];exact hvc
   clear hvc
   go_wp2_with fail
   go_ret2;refine⟨by rw [HP.out];rfl,F6,?_,HF.out.2⟩;rw [HP.out];exact HF.out.1
 ·have t6:(er==6)=false:=by rw [beq_eq_false_iff_ne];exact h6
  rw [if_neg h6]at HP;by_cases he:er=0
  ·subst he;rw [if_pos rfl]at HP
   go_wp2_with fail
   go_ret2;refine⟨by rw [HP.out];rfl,F5,?_,HF5.out.2⟩;rw [HP.out];exact HF5.out.1
  ·have t7:(er==0)=false:=by rw [beq_eq_false_iff_ne];exact he
   have t8:(er !=0)=true:=by simp [he]
   rw [if_neg he]at HP
   go_wp2_with fail
   go_ret2;refine⟨by rw [HP.out];rfl,F5,?_,HF5.out.2⟩;rw [HP.out];exact HF5.out.1
def Ah4(h:Jd (.up (MU lf)) w x d p L s F)(key:ByteArray)(hk:key.size<=1000):
 Calls prog 70 #[Az x,.string key] w (aP (RJ ⟨.up lf,s⟩ key.data.toList) x d p L F w):=by
 by_cases hc:∃way rest last,FY s key.data.toList=some (way,rest)/\CZ way rest=some last/\last.nd.val≠0/\last.nd.kids.length=0/\¬16<key.size
 ·obtain⟨way,rest,last,h1,h2,h3,h4,h5⟩:=hc;exact yV h key h5 h1 h2 h3 h4
 ·exact yz h key hk (λway rest last h1 h2 h3 h4 h5=>hc ⟨way,rest,last,h1,h2,h3,h5,h4⟩)
def Aa5(h:Ix w x d p L s F)(key:ByteArray)(hk:key.size<=1000):
 Calls prog 70 #[Az x,.string key] w (Akt (Ug s key.data.toList) x d p L F w):=by
 have:=Ah4 (lf:= -1) h key hk;rw [Agd]at this;exact this
end
