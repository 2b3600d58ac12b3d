import Derived.Laws.IdiomStrings
import Derived.Test.YtjcppneoncpdbaaGreatDoorG05
import Derived.Test.YtjcppneoncpdbaaGreatDoorG11
import Derived.Test.YtjcppneoncpdbaaGreatDoorG12
import Derived.Test.YtjcppneoncpdbaaGreatDoorG13
import Derived.Test.YtjcppneoncpdbaaGreatDoorG15
import Derived.Test.YtjcppneoncpdbaaGreatDoorG27
import Derived.Test.YtjcppneoncpdbaaGreatDoorG31
import Derived.Test.YtjcppneoncpdbaaGreatDoorG32
import Derived.Test.YtjcppneoncpdbaaGreatDoorG33
set_option maxHeartbeats 32000000
set_option maxRecDepth 100000
open List renaming mem_cons->D9,mem_cons_self->Bv,mem_cons_of_mem->Bz,mem_map->BX,map_map->We,length_map->CZ,getElem?_cons_succ->Af,getElem?_cons_zero->Ad,set_cons_zero->Am,set_cons_succ->Aq,getElem_toArray->Au,getElem_cons_succ->Ap,getElem_cons_zero->Aj,setIfInBounds_toArray->Ah
open Go.Lib renaming hid->Aa
open Nat renaming le_refl->Ae,le_of_lt->Iy
open UInt64 renaming toNat_add->vz
namespace Go.Proofs.YtjcppneoncpdbaaGreatDoor
open Go.RowKit Go.Maps
theorem lG:∀(l:List (Int×Int))(i:Nat)(x:MapEntry),x∈Hg i l->∃p∈l,x.key= .int .i64 p.1
 | [],i,x,hx=>by cases hx
 | p::t,i,x,hx=>by
   rcases D9.1 hx with rfl| hx
   ·exact⟨p,Bv ..,rfl⟩
   ·obtain⟨q,hq,e⟩:=lG t _ x hx;exact⟨q,Bz _ hq,e⟩
theorem U0:∀(n:Nat)(l:List (Int×Int)),l.length=n->(l.map (·.1)).Nodup->Go.MapKept.Stamped (Hg 0 l).toArray l.length
 | 0,l,hl,_=>by
   have:l=[]:=List.eq_nil_of_length_eq_zero hl;subst this;exact Go.MapKept.stamped_empty 0
 | n+1,l,hl,h=>by
   rcases List.eq_nil_or_concat l with rfl| ⟨t,a,rfl⟩
   ·simp at hl
   ·rw [List.concat_eq_append]at hl h⊢;obtain⟨o,v⟩:=a;rw [List.map_append,List.nodup_append]at h;have h1:=U0 n t (by simpa using hl) h.1;rw [XF,List.length_append];have h2:=Go.MapKept.stamped_push h1 (key:= .int .i64 o) (val:= .int .i64 v) (fun x hx e=>by
     obtain⟨p,hp,e2⟩:=lG t 0 x (by simpa using hx);rw [e2]at e;injection e with _ e
     exact h.2.2 p.1 (BX.2 ⟨p,hp,rfl⟩) o (by simp) e)
    simpa using h2
theorem wf64{x:Int}(h: -9223372036854775808<=x)(k:x<=9223372036854775807):(Lit.int .i64 x).wf=true:=by
 have h1:IntKind.i64.min= -9223372036854775808:=by decide
 have h2:IntKind.i64.max=9223372036854775807:=by decide
 simp only [Lit.wf,h1,h2,Bool.and_eq_true,decide_eq_true_eq];exact⟨h,k⟩
theorem JX.owns{w:World}{mb:Nat}{l:List (Int×Int)}(h:JX w mb l)(hn:(l.map (·.1)).Nodup)(hr:∀p∈l,(Lit.int .i64 p.1).wf=true/\(Lit.int .i64 p.2).wf=true)(hl:l.length<=maxLen):
 ∃D:DataW Unit,w.ownsMap Tryz.prog 3 (plainElem Tryz.prog 3) mb l.length D/\(intKeys D).Perm (l.map (·.1))/\Maps.size D=l.length:=by
 have hrd:∀(l:List (Int×Int))(i:Nat),(∀p∈l,(Lit.int .i64 p.1).wf=true/\(Lit.int .i64 p.2).wf=true)->∀x∈Hg i l,∃p∈l,Go.WideElems.rd Tryz.prog 3 (plainElem (H:=Unit) Tryz.prog 3) x=some (.int .i64 p.1,.lit (.int .i64 p.2)):=by
  intro l;induction l with
  | nil=>intro i _ x hx;cases hx
  | cons p t ih=>
    intro i hr x hx;rcases D9.1 hx with rfl| hx
    ·refine⟨p,Bv ..,?_⟩;obtain⟨h1,h2⟩:=hr p (Bv ..);exact Go.WideElems.rd_mk (keyOf_int_mk Tryz.underlying3 h1) (plainElem_int Tryz.underlying3 h2)
    ·obtain⟨q,hq,e⟩:=ih _ (fun p hp=>hr p (Bz _ hp)) x hx;exact⟨q,Bz _ hq,e⟩
 have hmap:∀(l:List (Int×Int))(i:Nat),(∀p∈l,(Lit.int .i64 p.1).wf=true/\(Lit.int .i64 p.2).wf=true)->(Hg i l).map (Go.WideElems.rg Tryz.prog 3 (plainElem (H:=Unit) Tryz.prog 3))=l.map fun p=>(Lit.int .i64 p.1,DataW.lit (.int .i64 p.2)):=by
  intro l;induction l with
  | nil=>intro i _;rfl
  | cons p t ih=>
    intro i hr;obtain⟨h1,h2⟩:=hr p (Bv ..);simp only [Hg,List.map_cons];rw [ih _ (fun p hp=>hr p (Bz _ hp)),Go.WideElems.rg_of (Go.WideElems.rd_mk (keyOf_int_mk Tryz.underlying3 h1) (plainElem_int Tryz.underlying3 h2))]
 have hp:=Go.WideShapes.sorted_perm (l.map fun p=>((Lit.int .i64 p.1,DataW.lit (.int .i64 p.2)):Lit×DataW Unit));refine⟨_,⟨_,_,h,⟨by simp [XG];exact hl,U0 _ l rfl hn,fun x hx=> ?_⟩,by simp [XG],rfl⟩,?_,?_⟩
 ·obtain⟨p,_,e⟩:=hrd l 0 hr x (by simpa using hx);exact⟨_,e⟩
 ·rw [show((Hg 0 l).toArray.toList)=Hg 0 l by simp,hmap l 0 hr];refine(hp.map (fun p=>Go.intOf p.1)).trans ?_;rw [We];exact List.Perm.of_eq rfl
 ·rw [show((Hg 0 l).toArray.toList)=Hg 0 l by simp,hmap l 0 hr];show(List.foldr DataW.insert [] _).length=_;rw [hp.length_eq,CZ]
theorem Acg(mb:Nat)(w:World):Calls Tryz.prog 60 #[.map (some mb)] w fun e w'=>e= .returned (.func (.func 112) #[] #[.pointer (some ⟨w.heap.size,0,none⟩)])/\w'=w.alloc (.cells #[.map (some mb)] 142):=
 (callsIn_wide (n:=5)).1 (AnyZI.keys_in Tryz.keysA Fence.wide 5 trivial rfl (some mb) w)
theorem Tryz.sortsA(m:Nat):AnyZI.SortsIn Tryz.prog Tryz.sortedA_ren Fence.wide m:=
 ⟨fun blk off cap ss W hH hblk hsz=>callsIn_wide.2 (AnyM.slices_Sort_int Tryz.sortA blk off cap ss W hH hblk hsz),
  fun p cap W=>callsIn_wide.2 (AnyM.slices_Sort_int_none Tryz.sortA p cap W)⟩
theorem lH(bx mb:Nat)(w:World)(met:List Int)(hc:w.cell? ⟨bx,0,none⟩=some (.map (some mb)))(hm:JX w mb (met.map fun o=>(o,1)))(hn:met.Nodup)(hr:∀o∈met,0<=o/\o<=65536):
 Calls Tryz.prog 59 #[.func (.func 112) #[] #[.pointer (some ⟨bx,0,none⟩)]] w fun e w'=>∃v,e= .returned v/\
  w'.ownsRow w.heap.size 3 1 v met.length ((met.mergeSort (fun x y=>decide (x<=y))).map (Value.int .i64))/\Below w.heap.size w w':=by
 have hbx:=World.block_lt_of_cell? w _ hc;have hlen:met.length<=65537:=OE 65537 met hn (fun o ho=>by have:=hr o ho;omega);obtain⟨D,hD,hpm,hsz⟩:=hm.owns (by rw [We];simpa [Function.comp_def]using hn) (fun p hp=>by
  obtain⟨o,ho,rfl⟩:=BX.1 hp;have:=hr o ho;exact⟨wf64 (by simp only;omega) (by simp only;omega),wf64 (by simp only;omega) (by simp only;omega)⟩) (by rw [CZ];unfold maxLen;omega)
 rw [We]at hpm;replace hpm:(intKeys D).Perm met:=by simpa [Function.comp_def]using hpm
 rw [CZ]at hsz;have hseq:=AnyZI.keys_gives (ρ:=Tryz.keysA_ren) {Tryz.keysA with} Fence.wide 2 trivial rfl (by omega) bx mb _ D w hbx hc hD;have cS:=AnyZI.sorted_in Tryz.sortedA Fence.wide 5 trivial trivial trivial trivial rfl (by omega) (Tryz.sortsA _) (enters_of Tryz.func73 (by kernel_rfl) rfl) 112 #[.pointer (some ⟨bx,0,none⟩)] trivial (enters_of Tryz.func112 (by kernel_rfl) rfl) _ _ (by rw [hsz];unfold maxLen;omega) (by rw [hsz];omega) _ hseq;refine((callsIn_wide (n:=5)).1 cS).mono ?_;rintro e w'⟨v,ss,rfl,hS,hrow,_,hb⟩;have hsm:ss.Perm met:=hS.trans hpm;rw [hsm.length_eq,mergeSort_of_perm_i hsm]at hrow;exact⟨v,rfl,hrow,hb⟩
def Agg(l:List Int):List Int:=l.mergeSort fun x y=>decide (x<=y)
section
variable{len:Mode}{w w':World}{x d p L:Nat}{s:St}{F:Nat->Prop}
def yM(s:St)(w:World)(e:Ending)(w':World):Prop:=
 Below w.heap.size w w'/\match EH s with
  | none=>e= .returned (.tuple #[.slice none 0 0,.int .i64 5])
  | some (_,met)=>∃v,e= .returned (.tuple #[v,.int .i64 0])/\w'.ownsRow w.heap.size 3 1 v met.length ((Agg met).map (Value.int .i64))/\met.length<=65537
theorem VU(h:Nv len w x d p L s F):Calls Tryz.prog 25 #[.pointer (some ⟨x,0,none⟩)] w (yM s w):=by
 have HS:=Aa (Uu h);cases hv:EH s with
 | none=>
   have HV:=Aa hv;clear h hv;go_enter Tryz.func25,Tryz.ntmps25
   go_wp2_with fail
   refine HS.out.mono ?_;rintro e w1⟨hb1,hp1⟩;rw [HV.out]at hp1;replace hp1:e= .returned (.tuple #[.pointer none,.int .i64 5]):=hp1;subst hp1;have HB:=Aa hb1;clear hb1 HS
   go_wp2_with fail
   go_ret2;refine⟨HB.out,?_⟩;rw [HV.out];rfl
 | some im=>
   obtain⟨i2,m2⟩:=im;have HV:=Aa hv;clear h hv;go_enter Tryz.func25,Tryz.ntmps25
   go_wp2_with fail
   refine HS.out.mono ?_;rintro e w1⟨hb1,hp1⟩;rw [HV.out]at hp1;obtain⟨sb,mb,v,rfl,hs1⟩:=hp1;have z2:=hs1.box.cell 2;simp only [Af,Ad]at z2;have HB:=Aa hb1;have HSv:=Aa hs1;clear hb1 HS hs1
   go_wp2_with fail
   refine(Acg mb w1).mono ?_;rintro e w2⟨rfl,hw2⟩;have Gv:Below w1.heap.size w1 w2:=hw2▸(Below.refl _ _).alloc (Ae _) _;have hc2:w2.cell? ⟨w1.heap.size,0,none⟩=some (.map (some mb)):=by
    have B:BI w2 w1.heap.size 142 [.map (some mb)]:=hw2▸heap_alloc_new _ _;exact B.cell 0
   have hSt:=HSv.out.below Gv;have zx:=Aa (lH w1.heap.size mb w2 m2 hc2 hSt.map hSt.qo hSt.rng);have HB2:=Aa (HB.out.trans (Gv.mono HB.out.size));have HL:Hid (m2.length<=65537):=Aa (OE 65537 m2 hSt.qo (fun o ho=>by have:=hSt.rng o ho;omega));clear hw2 Gv hc2 hSt z2
   go_wp2_with fail
   refine zx.out.mono ?_;rintro e w3⟨v3,rfl,ho3,hb3⟩;have HB3:=Aa (HB2.out.trans (hb3.mono HB2.out.size));have dK:=Aa (aQ ho3 HB2.out.size);clear hb3 ho3 zx
   go_wp2_with fail
   go_ret2;refine⟨HB3.out,?_⟩;rw [HV.out];exact⟨v3,rfl,dK.out,HL.out⟩
def yN(len:Mode)(s:St)(w:World)(d p L:Nat)(F:Nat->Prop)(e:Ending)(w':World):Prop:=
 Below w.heap.size w w'/\match EH s with
  | none=>e= .returned (.tuple #[.pointer none,.int .i64 5])
  | some _=>∃x,e= .returned (.tuple #[.pointer (some ⟨x,0,none⟩),.int .i64 0])/\Nv len w' x d p L s F/\w.heap.size<=x
theorem YB(h:EL len w d p L s F):Calls Tryz.prog 40 #[.pointer (some ⟨d,0,none⟩),.pointer (some ⟨p,0,none⟩)] w (yN len s w d p L F):=by
 have hFl:=h.lt;obtain⟨w2,hw2⟩:∃w2,w2=w.alloc (.cells #[.pointer (some ⟨d,0,none⟩),.pointer (some ⟨p,0,none⟩)] 181):=⟨_,rfl⟩;have hb2:Below w.heap.size w w2:=hw2▸(Below.refl _ _).alloc (Ae _) _;have hI:Nv len w2 w.heap.size d p L s F:=⟨h.below hb2,hw2▸heap_alloc_new _ _,fun hf=>by have:=hFl _ hf;omega⟩;have hsz:Calls Tryz.prog 44 #[.pointer (some ⟨d,0,none⟩)] w fun e w'=>e= .returned (.int .i64 (L*64:Nat))/\w=w':=by
  obtain⟨tb,hb,n,cT,cH,own,h,_⟩:=h;exact h.dev.size h.L1
 have hL0:0<L:=by obtain⟨tb,hb,n,cT,cH,own,h,_⟩:=h;exact h.L0
 have t0:(((L*64:Nat):Int)==0)=false:=by rw [beq_eq_false_iff_ne];omega
 generalize L*64=sz at hsz t0;have wR:=Aa hsz;have HN:=Aa (VU hI);have HI:=Aa hI;have HB2:=Aa hb2;have HW2:=Aa hw2;clear h hsz hI hb2 hw2 hFl;go_enter Tryz.func40,Tryz.ntmps40
 go_wp2_with fail
 refine wR.out.mono ?_;rintro e w1⟨rfl,rfl⟩;clear wR
 go_wp2_with fail
 rw [<-HW2.out];refine HN.out.mono ?_;rintro e w3⟨hb3,hp3⟩;have HB3:=Aa (HB2.out.trans (hb3.mono HB2.out.size));have HI3:=Aa (HI.out.below hb3);cases hv:EH s with
 | none=>
   rw [hv]at hp3;replace hp3:e= .returned (.tuple #[.slice none 0 0,.int .i64 5]):=hp3;subst hp3;have HV:=Aa hv;clear hv hb3 HN
   go_wp2_with fail
   go_ret2;refine⟨HB3.out,?_⟩;rw [HV.out];rfl
 | some im=>
   obtain⟨i2,m2⟩:=im;rw [hv]at hp3;obtain⟨v3,rfl,ho3,_⟩:=hp3;obtain⟨A3,c3,rfl⟩:∃A c,v3= .slice A m2.length c:=by
    rcases ho3.2 with⟨h1,h2⟩| ⟨g,cap,cur,h1,_⟩
    ·exact⟨none,0,by rw [h1,h2]⟩
    ·exact⟨_,_,h1⟩
   have HV:=Aa hv;clear hv hb3 HN ho3
   go_wp2_with fail
   go_ret2;refine⟨HB3.out,?_⟩;rw [HV.out];exact⟨_,rfl,HI3.out,Ae _⟩
end
end Go.Proofs.YtjcppneoncpdbaaGreatDoor
namespace Go.Proofs.YtjcppneoncpdbaaGreatDoor
open Go.RowKit
def wV(d p x:Nat):Value:= .agg #[.pointer (some ⟨d,0,none⟩),.pointer (some ⟨p,0,none⟩),.pointer (some ⟨x,0,none⟩)]
theorem rQ(sh:Sh):EH (st0 sh)=some ([],[]):=by
 unfold EH;rw [if_pos (show(st0 sh).ws 9=0 from H8 sh 9 (by decide))]
theorem uV{w:World}{L:Nat}{sh:Sh}(hL0:0<L)(hL:L<=1024)(hs:shapeOf L=some sh)(hT:Tabs w):Calls Tryz.prog 10 #[.int .i64 (L:Int)] w fun e w'=>∃d p x F,e= .returned (.tuple #[wV d p x,.bool true])/\
 Ix w' x d p L (st0 sh) F/\Below w.heap.size w w'/\(∀b,F b->w.heap.size<=b)/\w.heap.size<=x:=by
 obtain⟨W0,hW0⟩:∃W0,W0=w.alloc (.cells #[.pointer none,.pointer none,.pointer none] 31):=⟨_,rfl⟩;have hb0:Below w.heap.size w W0:=hW0▸(Below.refl _ _).alloc (Ae _) _;have B0:BI W0 w.heap.size 31 [.pointer none,.pointer none,.pointer none]:=hW0▸heap_alloc_new _ _;have HB0:=Aa (pR hL0 hL hs (hT.below hb0));have Hb0:=Aa hb0;have U6:=Aa B0;have HW0:=Aa hW0;have zD:=Aa hT.lt;clear hT hs hb0 B0 hW0;go_enter Tryz.func10,Tryz.ntmps10
 go_wp2_with fail
 rw [<-HW0.out];refine HB0.out.mono ?_;rintro e w1⟨d,p,F,rfl,hs1,hb1,hF1⟩;have HO:=Aa (YB hs1);have HB1:=Aa (Hb0.out.trans (hb1.mono Hb0.out.size));have Za:=Aa (U6.out.below hb1 U6.out.lt);have HF1:Hid (∀b,F b->w.heap.size<b):=Aa (fun b hb=>by have:=hF1 b hb;have:=U6.out.lt;omega);clear HB0 hs1 hb1 hF1
 go_wp2_with fail
 refine HO.out.mono ?_;rintro e w2⟨hb2,hp2⟩;rw [rQ]at hp2;obtain⟨x,rfl,hx2,hxw⟩:=hp2;have hB2:=Za.out.below hb2 Za.out.lt;have HB2:=Aa (HB1.out.trans (hb2.mono HB1.out.size));have HX2:=Aa hx2;have Aoh:w.heap.size<x:=Nat.lt_of_lt_of_le Za.out.lt hxw;have f0:=hB2.frozen 0;have f1:=hB2.frozen 1;have f2:=hB2.frozen 2;have c0:=hB2.cell 0;have c1:=hB2.cell 1;have c2:=hB2.cell 2;simp only [Ad,Af]at c0 c1 c2;have Aoi:=Aa hB2;clear HO hb2 hx2 hxw hB2
 go_wp2_with fail
 have K:=((Aoi.out.AU 0 (.pointer (some ⟨d,0,none⟩))).AU 1 (.pointer (some ⟨p,0,none⟩))).AU 2 (.pointer (some ⟨x,0,none⟩));have q0:=K.cell 0;have q1:=K.cell 1;have q2:=K.cell 2;simp only [Am,Aq,Ad,Af]at q0 q1 q2;have t3:Touch (fun k=>k=w.heap.size) w2 (((w2.setCell ⟨w.heap.size,0,none⟩ (.pointer (some ⟨d,0,none⟩))).setCell ⟨w.heap.size,1,none⟩ (.pointer (some ⟨p,0,none⟩))).setCell ⟨w.heap.size,2,none⟩ (.pointer (some ⟨x,0,none⟩))):=
  (((Touch.refl (fun k=>k=w.heap.size) w2).setCell (p:=⟨w.heap.size,0,none⟩) (.inl rfl) _).setCell (p:=⟨w.heap.size,1,none⟩) (.inl rfl) _).setCell (p:=⟨w.heap.size,2,none⟩) (.inl rfl) _
 refine bodyPost_ret (v:= .tuple #[wV d p x,.bool true]) (by simp [results,Tryz.results10,go_sem,q0,q1,q2,wV]) rfl ?_;refine⟨d,p,x,F,rfl,⟨HX2.out.sys.keep t3 (fun b hb e=>by have:=HF1.out b hb;omega) (by have:=zD.out;omega) (by have:=zD.out;omega),HX2.out.box.touch t3 (by show x≠_;omega),HX2.out.out⟩,?_,fun b hb=>Iy (HF1.out b hb),Iy Aoh⟩;exact((HB2.out.setCell (p:=⟨w.heap.size,0,none⟩) (Ae _) _).setCell (p:=⟨w.heap.size,1,none⟩) (Ae _) _).setCell (p:=⟨w.heap.size,2,none⟩) (Ae _) _
theorem Aig{len:Mode}{w:World}{x d p L:Nat}{s:St}{F:Nat->Prop}(h:EL len w d p L s F):Calls Tryz.prog 21 #[wV d p x] w fun e w'=>e= .returned (.int .u64 ((s.ws 8).toNat:Int))/\Below w.heap.size w w':=by
 obtain⟨W0,hW0⟩:∃W0,W0=w.alloc (.cells #[.pointer (some ⟨d,0,none⟩),.pointer (some ⟨p,0,none⟩),.pointer (some ⟨x,0,none⟩)] 31):=⟨_,rfl⟩;have hb0:Below w.heap.size w W0:=hW0▸(Below.refl _ _).alloc (Ae _) _;have B0:BI W0 w.heap.size 31 [.pointer (some ⟨d,0,none⟩),.pointer (some ⟨p,0,none⟩),.pointer (some ⟨x,0,none⟩)]:=hW0▸heap_alloc_new _ _;have c0:=B0.cell 0;simp only [Ad]at c0;have hL2:=h.pos.2.2.1.fits;have hL3:=h.pos.2.2.1.NR;have HL:=Aa ((h.below hb0).load 8 (by omega));rw [show((8*8:Nat):Int)=64 from rfl]at HL;have HB0:=Aa hb0;have HW0:=Aa hW0;clear h hb0 hW0 B0 hL2 hL3;unfold wV;go_enter Tryz.func21,Tryz.ntmps21
 go_wp2_with fail
 rw [<-HW0.out]
 go_wp2_with fail
 refine HL.out.mono ?_;rintro e w1⟨rfl,rfl⟩
 go_wp2_with fail
 go_ret;exact⟨rfl,HB0.out⟩
section
variable{len:Mode}{w:World}{x d p L:Nat}{s:St}{F:Nat->Prop}
end
section
variable{w:World}{x d p L:Nat}{s:St}{F:Nat->Prop}{items:List Kv}{ch:List UInt8->List Lk}
def Tv(w:World)(x d p L:Nat)(s:St)(F:Nat->Prop)(items:List Kv)(ch:List UInt8->List Lk)(e:Ending)(w':World):Prop:=
 (e= .returned (.int .i64 6)/\∃(s':St)(F':Nat->Prop),Dc L s' items ch/\OQ s s'/\Ix w' x d p L s' F'/\AB F F' w w')\/
 (e= .returned (.int .i64 0)/\∃(s':St)(F':Nat->Prop),(s'.ws 8).toNat=(s.ws 8).toNat+1/\s'.sh=s.sh/\(∀i,i<16->i≠8->i≠9->s'.ws i=s.ws i)/\(∃it c,Dc L s' it c/\∀k,∀y∈c k,y.rc.stamp.toNat<=(s.ws 8).toNat+1)/\Ix w' x d p L s' F'/\AB F F' w w')
theorem Ro{w w1 w':World}{F F':Nat->Prop}{jb:Nat}{v:Value}(hb:Below w.heap.size w w1)(hjb:w.heap.size<=jb)(m:AB (JG F jb (.slice none 0 0)) (JG F' jb v) w1 w'):AB F F' w w':=
 ⟨(Touch.of_below (F:=F) hb).trans m.touch (fun b h=>by
   rcases h with h| h| h
   ·exact .inl h
   ·exact .inr (by omega)
   ·cases h),fun b h=>by
   rcases m.own b (.inl h)with(h| h| h)| h
   ·exact .inl h
   ·exact .inr (by omega)
   ·cases h
   ·exact .inr (Nat.le_trans hb.size h)⟩
theorem Ach{l:List Wr}(hr:∀y∈l,Dk y=true)(hu:XW l)(hl:l.length<=16){a b:UInt64}(h1:a.toNat<b.toNat)(h2:b.toNat<=60000):Y9 a b l=true:=by
 unfold Y9;rw [decide_eq_true h1,decide_eq_true h2,aV hl (fun j hj=>hr _ (List.getElem_mem hj)) (fun j h _=>hu.lt (by omega) h (Nat.lt_succ_self j))];rfl
theorem gm{md:Mode}(h:Nv md w x d p L s F){v:Value}{l:List Wr}{G:Nat->Prop}(hset:H9 w G v l)(hr:∀y∈l,Dk y=true)(hu:XW l)(hl:l.length<=16)(h8:(s.ws 8).toNat<60000)(J:Nat->Value->Nat->World->Prop)(Q:Int->World->Prop)
 (h0:∀jb vs w1,w.heap.size<=jb->Below w.heap.size w w1->ES md w1 w.heap.size jb x d p L s (s.ws 8+1) vs l [] false 0 F (.slice none 0 0)->J jb vs 0 w1)
 (hst:∀jb vs k wr,k<=l.length->J jb vs k wr->Calls Tryz.prog 17 #[.pointer (some ⟨jb,0,none⟩)] wr fun e w'=>(e= .returned (.tuple #[.bool false,.int .i64 0])/\k<l.length/\J jb vs (k+1) w')\/∃c:Int,e= .returned (.tuple #[.bool true,.int .i64 c])/\Q c w'):
 Calls Tryz.prog 23 #[wV d p x,v] w fun e w'=>∃c:Int,e= .returned (.int .i64 c)/\Q c w':=by
 obtain⟨W0,hW0⟩:∃W0,W0=w.alloc (.cells #[.pointer (some ⟨d,0,none⟩),.pointer (some ⟨p,0,none⟩),.pointer (some ⟨x,0,none⟩)] 31):=⟨_,rfl⟩;have hb0:Below w.heap.size w W0:=hW0▸(Below.refl _ _).alloc (Ae _) _;have B0:BI W0 w.heap.size 31 [.pointer (some ⟨d,0,none⟩),.pointer (some ⟨p,0,none⟩),.pointer (some ⟨x,0,none⟩)]:=hW0▸heap_alloc_new _ _;have y0:=B0.cell 0;have y1:=B0.cell 1;have y2:=B0.cell 2;simp only [Ad,Af]at y0 y1 y2;obtain⟨A,c,rfl⟩:=hset.slice;obtain⟨stamp,Vp⟩:∃stamp,stamp=s.ws 8+1:=⟨_,rfl⟩;have hsn:stamp.toNat=(s.ws 8).toNat+1:=by rw [Vp,vz];simp;omega
 have hwk:IntKind.u64.wrap (((s.ws 8).toNat:Int)+1)=(stamp.toNat:Int):=by rw [hsn,IntKind.wrap_u64];omega
 have HN:Hid (Y9 (s.ws 8) stamp l=true):=Aa (Ach hr hu hl (by omega) (by omega));have hsz:∀y∈l,y.key.size<=4294967296/\y.text.size<=4294967296:=fun y hy=>by
  have:=hr y hy;unfold Dk at this;simp only [Bool.and_eq_true,decide_eq_true_eq]at this;omega
 have HWB:Hid (∀W',Below W0.heap.size W0 W'->W'.cell? ⟨w.heap.size,0,none⟩=some (.pointer (some ⟨d,0,none⟩))/\W'.cell? ⟨w.heap.size,1,none⟩=some (.pointer (some ⟨p,0,none⟩))/\W'.cell? ⟨w.heap.size,2,none⟩=some (.pointer (some ⟨x,0,none⟩))):=Aa (fun W' k=>⟨(B0.below k B0.lt).cell 0,(B0.below k B0.lt).cell 1,(B0.below k B0.lt).cell 2⟩);have HSl:=Aa (fun W'(k:Below W0.heap.size W0 W')=>Aig (x:=x) (((h.below hb0).below k).sys));have HNw:=Aa (fun W'(k:Below W0.heap.size W0 W')=>fU (x:=x) (((h.below hb0).below k).sys) ((hset.below hb0).below k) (by omega) hsz stamp);have HB0:=Aa hb0;have HW0:=Aa hW0;have HX:=Aa h;have H0:Hid (∀jb vs w1,w.heap.size<=jb->Below w.heap.size w w1->ES md w1 w.heap.size jb x d p L s stamp vs l [] false 0 F (.slice none 0 0)->J jb vs 0 w1):=Aa (fun jb vs w1=>by rw [Vp];exact h0 jb vs w1);have Aoj:=Aa hst;have HSn:=Aa hsn;have hs0:stamp.toNat≠0:=by omega
 clear h hset hr hu hst h0 hsz hb0 hW0 B0 Vp h8 hsn;unfold wV at HSl⊢;go_enter Tryz.func23,Tryz.ntmps23
 go_wp2_with fail
 rw [<-HW0.out]
 try go_wp2_with fail
 refine wp_region_held_drew (S:=(fun w'=>w'.cell? ⟨w.heap.size,0,none⟩=some (.pointer (some ⟨d,0,none⟩))/\w'.cell? ⟨w.heap.size,1,none⟩=some (.pointer (some ⟨p,0,none⟩))/\w'.cell? ⟨w.heap.size,2,none⟩=some (.pointer (some ⟨x,0,none⟩)))) (by kernel_rfl) ⟨y0,y1,y2⟩ (fun hHeld=> ?_);refine FB 0 (.pointer (some ⟨w.heap.size,0,none⟩)) rfl (by kernel_rfl) (fun _ _ _ h=>h) (by rfl) (fun w hSw=>by clear hSw;go_simp) hHeld ?_;refine FB 1 (.pointer (some ⟨d,0,none⟩)) rfl (by kernel_rfl) (fun _ _ _ h=>h) (by rfl) (fun w hSw=>by obtain⟨s0,s1,s2⟩:=hSw;go_simp) hHeld ?_;refine FB 2 (.pointer (some ⟨w.heap.size,1,none⟩)) rfl (by kernel_rfl) (fun _ _ _ h=>h) (by rfl) (fun w hSw=>by clear hSw;go_simp) hHeld ?_;refine FB 3 (.pointer (some ⟨p,0,none⟩)) rfl (by kernel_rfl) (fun _ _ _ h=>h) (by rfl) (fun w hSw=>by obtain⟨s0,s1,s2⟩:=hSw;go_simp) hHeld ?_
 try simp only [Act.put,Au,Ap,Aj,Ah,Am,Aq]
 refine FB 4 (.pointer (some ⟨w.heap.size,2,none⟩)) rfl (by kernel_rfl) (fun _ _ _ h=>h) (by rfl) (fun w hSw=>by clear hSw;go_simp) hHeld ?_;refine FB 5 (.pointer (some ⟨x,0,none⟩)) rfl (by kernel_rfl) (fun _ _ _ h=>h) (by rfl) (fun w hSw=>by obtain⟨s0,s1,s2⟩:=hSw;go_simp) hHeld ?_;refine FB 6 (.agg #[.pointer (some ⟨d,0,none⟩),.pointer (some ⟨p,0,none⟩),.pointer (some ⟨x,0,none⟩)]) rfl (by kernel_rfl) (fun _ _ _ h=>h) (by rfl) (fun w hSw=>by obtain⟨s0,s1,s2⟩:=hSw;go_simp) hHeld ?_;refine FB 9 (.slice A l.length c) rfl (by kernel_rfl) (fun _ _ _ h=>h) (by rfl) (fun w hSw=>by clear hSw;go_simp) hHeld ?_
 try simp only [Act.put,Au,Ap,Aj,Ah,Am,Aq]
 refine wpAnyH_ready (rs:=[7]) (by kernel_rfl) (by simp) ?_;refine AllReadyH.cons rfl (fun K hK=> ?_) AllReadyH.nil;go_simp;go_at_call 21;refine(HSl.out _ ((Dr.drew _).below _)).mono ?_;rintro e w10⟨rfl,Qc⟩;have YC:Below W0.heap.size W0 w10:=((Dr.drew W0).below _).trans Qc;refine hK.out _ _ (HWB.out _ YC) (fun hHeld=> ?_);clear hK K
 try simp only [Act.put,Au,Ap,Aj,Ah,Am,Aq]
 refine FB 8 (.int .u64 (stamp.toNat:Int)) rfl (by kernel_rfl) (fun _ _ _ h=>h) (by rfl) (fun w hSw=>by clear hSw;go_simp) hHeld ?_
 try simp only [Act.put,Au,Ap,Aj,Ah,Am,Aq]
 refine wpAnyH_ready (rs:=[10]) (by kernel_rfl) (by simp) ?_;refine AllReadyH.cons rfl (fun K hK=> ?_) AllReadyH.nil;go_simp;go_at_call 15;refine(HNw.out _ YC).mono ?_;rintro e w11⟨rU,Al4,_⟩;have lI:Below W0.heap.size W0 w11:=YC.trans (rU.mono YC.size);obtain⟨jb,vs,rfl,hjb,hjB,hjS⟩:=Al4 HN.out;refine hK.out _ _ (HWB.out _ lI) (fun hHeld=> ?_);clear hK K
 try simp only [Act.put,Au,Ap,Aj,Ah,Am,Aq]
 refine FB 11 (.tuple #[.pointer (some ⟨jb,0,none⟩),.int .i64 0]) rfl (by kernel_rfl) (fun _ _ _ h=>h) (by rfl) (fun w hSw=>by clear hSw;go_simp) hHeld ?_;refine FB 12 (.pointer (some ⟨jb,0,none⟩)) rfl (by kernel_rfl) (fun _ _ _ h=>h) (by rfl) (fun w hSw=>by clear hSw;go_simp) hHeld ?_;refine FB 13 (.int .i64 0) rfl (by kernel_rfl) (fun _ _ _ h=>h) (by rfl) (fun w hSw=>by clear hSw;go_simp) hHeld ?_;refine FB 14 (.pointer (some ⟨jb,0,none⟩)) rfl (by kernel_rfl) (fun _ _ _ h=>h) (by rfl) (fun w hSw=>by clear hSw;go_simp) hHeld ?_
 try simp only [Act.put,Au,Ap,Aj,Ah,Am,Aq]
 refine FB 15 (.int .i64 0) rfl (by kernel_rfl) (fun _ _ _ h=>h) (by rfl) (fun w hSw=>by clear hSw;go_simp) hHeld ?_
 try simp only [Act.put,Au,Ap,Aj,Ah,Am,Aq]
 refine wpAnyH_done (by kernel_rfl) ?_ _;have hlt:=HX.out.sys.lt;have htb:=HX.out.sys.tabs.lt;have hxl:=HX.out.box.lt;have hsz0:=HB0.out.size;have mY:w.heap.size<=jb:=by have:=lI.size;have:=YC.size;omega
 have hC:ES md w11 w.heap.size jb x d p L s stamp vs l [] false 0 F (.slice none 0 0):=⟨(HX.out.below HB0.out).below (lI.mono (Ae _)),hjB,World.ownsRow_nil _ _ _ _,hjS _ (fun b h1 h2 h=>by
  rcases h with h| h| h
  ·have:=hlt b h;have:=YC.size;omega
  ·omega
  ·cases h),fun h=>by have:=hlt jb h;omega,mY,hxl,htb,(fun h=>nomatch h),(fun b h=>nomatch h)⟩
 have Afl:Hid (Below w.heap.size w w11):=Aa (HB0.out.trans (lI.mono HB0.out.size));have HJ0:=Aa (H0.out jb vs w11 mY Afl.out hC);clear hlt htb hxl hsz0 hC lI YC Qc rU Al4 hjB hjS hHeld y0 y1 y2 HSl HNw HWB hjb hwk H0
 go_wp2_with fail
 go_loopw [30](fun i wr=>∃k:Nat,k<=l.length/\i= .int .i64 (k:Nat)/\J jb vs k wr)(fun i _=>20- (intOf i).toNat)
 case atStart=>exact⟨0,Nat.zero_le _,rfl,HJ0.out⟩
 case round=>
  obtain⟨k,hk,rfl,hJk⟩:=hrel;have Aih:=Aa (Aoj.out jb vs k wr hk hJk);have hx1:(k:Int)<20:=by omega
  have hx2:decide ((k:Int)<20)=true:=decide_eq_true hx1;have hwk:IntKind.i64.wrap ((k:Int)+1)=(k:Int)+1:=IntWalk.i64_in _ (by omega);clear hJk HJ0
  go_wp2_with fail
  refine Aih.out.mono ?_;rintro e w5(⟨rfl,hkl,hJ5⟩| ⟨c,rfl,hQ5⟩)
  ·have H1:=Aa hJ5;clear hJ5 Aih
   go_wp2_with fail
   go_roundw
   case rel=>exact⟨k+1,by omega,by go_num,H1.out⟩
   case measure=>simp [intOf];omega
  ·have H1:=Aa hQ5;clear hQ5 Aih
   go_wp2_with fail
   go_ret;exact⟨c,rfl,H1.out⟩
theorem Aci(h:Ix w x d p L s F)(hs:Dc L s items ch){v:Value}{l:List Wr}{G:Nat->Prop}(hset:H9 w G v l)(hr:∀y∈l,Dk y=true)(hu:XW l)(hl:l.length<=16)(h8:(s.ws 8).toNat<60000)(hst:∀k,∀y∈ch k,y.rc.stamp.toNat<=(s.ws 8).toNat):
 Calls Tryz.prog 23 #[wV d p x,v] w (Tv w x d p L s F items ch):=by
 have hxl:=h.box.lt;obtain⟨stamp,Vp⟩:∃stamp,stamp=s.ws 8+1:=⟨_,rfl⟩;have hsn:stamp.toNat=(s.ws 8).toNat+1:=by rw [Vp,vz];simp;omega
 refine(gm h hset hr hu hl h8 (fun jb vs k wr=>∃(w1:World)(j:rG)(F':Nat->Prop)(v':Value),w.heap.size<=jb/\Below w.heap.size w w1/\aT L s items ch stamp l j/\PT l j.done/\k=j.done.length/\xN wr w.heap.size jb x d p L j.s stamp vs l (j.done.map Prod.snd) false 0 F' v'/\AB (JG F jb (.slice none 0 0)) (JG F' jb v') w1 wr)
  (fun c w'=>Tv w x d p L s F items ch (.returned (.int .i64 c)) w') (fun jb vs w1 h1 h2 h3=> ?_) (fun jb vs k wr hk hJ=> ?_)).mono ?_
 ·rw [<-Vp]at h3;exact⟨w1,⟨s,[],false,0⟩,F,_,h1,h2,yz hs stamp l (fun k y hy=>by have:=hst k y hy;omega),fun i h=>absurd h (by simp),rfl,h3,AB.refl _ _⟩
 ·obtain⟨w1,j,F',v',mY,Aii,hj,hkey,rfl,hCj,hM⟩:=hJ;refine(rP hCj hj hkey hr hu (by omega) (by omega) (fun k y hy=>by have:=hst k y hy;omega)).mono ?_;rintro e w5(⟨rfl,hnl,j',F5,v5,zC,hk5,hd5,hC5,Ig⟩| ⟨rfl,s5,F5,hs5,hl5,hx5,Ig⟩| ⟨rfl,s5,F5,h8,hsh,hlo,hst5,hx5,Ig⟩)
  ·exact .inl ⟨rfl,hnl,w1,j',F5,v5,mY,Aii,zC,hk5,hd5.symm,hC5,hM.trans Ig⟩
  ·exact .inr ⟨6,rfl,.inl ⟨rfl,s5,F5,hs5,hl5,hx5,Ro Aii mY (hM.trans Ig)⟩⟩
  ·refine .inr ⟨0,rfl,.inr ⟨rfl,s5,F5,by rw [h8];exact hsn,hsh,hlo,?_,hx5,Ro Aii mY (hM.trans Ig)⟩⟩;obtain⟨it,c5,g1,g2⟩:=hst5;exact⟨it,c5,g1,fun k y hy=>by have:=g2 k y hy;omega⟩
 ·rintro e w'⟨c,rfl,hc⟩;exact hc
end
end Go.Proofs.YtjcppneoncpdbaaGreatDoor
