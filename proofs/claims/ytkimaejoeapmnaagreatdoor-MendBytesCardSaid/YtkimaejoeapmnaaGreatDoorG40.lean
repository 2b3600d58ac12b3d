import Derived.Test.YtkimaejoeapmnaaGreatDoorG38
import Derived.Test.YtkimaejoeapmnaaGreatDoorG39
set_option maxHeartbeats 32000000
set_option maxRecDepth 100000
open List renaming mem_cons->CZ,mem_cons_self->Bq,mem_cons_of_mem->BO,mem_map->Bf,map_map->GM,length_map->BH,getElem?_cons_succ->Az,getElem?_cons_zero->Aj,set_cons_zero->Am,set_cons_succ->Aq,getElem_toArray->Ap,getElem_cons_succ->Ah,getElem_cons_zero->Ag,setIfInBounds_toArray->Ae
open Go.Lib renaming hid->Aa
open Nat renaming le_refl->Ad,le_of_lt->IC
namespace Go.Proofs.YtkimaejoeapmnaaGreatDoor
open Go.RowKit Go.Maps
theorem qp:∀(l:List (Int×Int))(i:Nat)(x:MapEntry),x∈Ig i l->∃p∈l,x.key= .int .i64 p.1
 | [],i,x,hx=>by cases hx
 | p::t,i,x,hx=>by
   rcases CZ.1 hx with rfl| hx
   ·exact⟨p,Bq ..,rfl⟩
   ·obtain⟨q,hq,e⟩:=qp t _ x hx;exact⟨q,BO _ hq,e⟩
theorem Vh:∀(n:Nat)(l:List (Int×Int)),l.length=n->(l.map (·.1)).Nodup->Go.MapKept.Stamped (Ig 0 l).toArray l.length
 | 0,l,hl,_=>by
   have:l=[]:=List.eq_nil_of_length_eq_zero hl;subst this;exact Go.MapKept.stamped_empty 0
 | n+1,l,hl,h=>by
   rcases List.eq_nil_or_concat l with rfl| ⟨t,a,rfl⟩
   ·simp at hl
   ·rw [List.concat_eq_append]at hl h⊢;obtain⟨o,v⟩:=a;rw [List.map_append,List.nodup_append]at h;have h1:=Vh n t (by simpa using hl) h.1;rw [Zd,List.length_append];have h2:=Go.MapKept.stamped_push h1 (key:= .int .i64 o) (val:= .int .i64 v) (fun x hx e=>by
     obtain⟨p,hp,e2⟩:=qp t 0 x (by simpa using hx);rw [e2]at e;injection e with _ e
     exact h.2.2 p.1 (Bf.2 ⟨p,hp,rfl⟩) o (by simp) e)
    simpa using h2
theorem wf64{x:Int}(h: -9223372036854775808<=x)(k:x<=9223372036854775807):(Lit.int .i64 x).wf=true:=by
 have h1:IntKind.i64.min= -9223372036854775808:=by decide
 have h2:IntKind.i64.max=9223372036854775807:=by decide
 simp only [Lit.wf,h1,h2,Bool.and_eq_true,decide_eq_true_eq];exact⟨h,k⟩
theorem Kt.owns{w:World}{mb:Nat}{l:List (Int×Int)}(h:Kt w mb l)(hn:(l.map (·.1)).Nodup)(hr:∀p∈l,(Lit.int .i64 p.1).wf=true/\(Lit.int .i64 p.2).wf=true)(hl:l.length<=maxLen):
 ∃D:DataW Unit,w.ownsMap Tryz.prog 3 (plainElem Tryz.prog 3) mb l.length D/\(intKeys D).Perm (l.map (·.1))/\Maps.size D=l.length:=by
 have hrd:∀(l:List (Int×Int))(i:Nat),(∀p∈l,(Lit.int .i64 p.1).wf=true/\(Lit.int .i64 p.2).wf=true)->∀x∈Ig i l,∃p∈l,Go.WideElems.rd Tryz.prog 3 (plainElem (H:=Unit) Tryz.prog 3) x=some (.int .i64 p.1,.lit (.int .i64 p.2)):=by
  intro l;induction l with
  | nil=>intro i _ x hx;cases hx
  | cons p t ih=>
    intro i hr x hx;rcases CZ.1 hx with rfl| hx
    ·refine⟨p,Bq ..,?_⟩;obtain⟨h1,h2⟩:=hr p (Bq ..);exact Go.WideElems.rd_mk (keyOf_int_mk Tryz.underlying3 h1) (plainElem_int Tryz.underlying3 h2)
    ·obtain⟨q,hq,e⟩:=ih _ (fun p hp=>hr p (BO _ hp)) x hx;exact⟨q,BO _ hq,e⟩
 have hmap:∀(l:List (Int×Int))(i:Nat),(∀p∈l,(Lit.int .i64 p.1).wf=true/\(Lit.int .i64 p.2).wf=true)->(Ig i l).map (Go.WideElems.rg Tryz.prog 3 (plainElem (H:=Unit) Tryz.prog 3))=l.map fun p=>(Lit.int .i64 p.1,DataW.lit (.int .i64 p.2)):=by
  intro l;induction l with
  | nil=>intro i _;rfl
  | cons p t ih=>
    intro i hr;obtain⟨h1,h2⟩:=hr p (Bq ..);simp only [Ig,List.map_cons];rw [ih _ (fun p hp=>hr p (BO _ hp)),Go.WideElems.rg_of (Go.WideElems.rd_mk (keyOf_int_mk Tryz.underlying3 h1) (plainElem_int Tryz.underlying3 h2))]
 have hp:=Go.WideShapes.sorted_perm (l.map fun p=>((Lit.int .i64 p.1,DataW.lit (.int .i64 p.2)):Lit×DataW Unit));refine⟨_,⟨_,_,h,⟨by simp [Ze];exact hl,Vh _ l rfl hn,fun x hx=> ?_⟩,by simp [Ze],rfl⟩,?_,?_⟩
 ·obtain⟨p,_,e⟩:=hrd l 0 hr x (by simpa using hx);exact⟨_,e⟩
 ·rw [show((Ig 0 l).toArray.toList)=Ig 0 l by simp,hmap l 0 hr];refine(hp.map (fun p=>Go.intOf p.1)).trans ?_;rw [GM];exact List.Perm.of_eq rfl
 ·rw [show((Ig 0 l).toArray.toList)=Ig 0 l by simp,hmap l 0 hr];show(List.foldr DataW.insert [] _).length=_;rw [hp.length_eq,BH]
theorem Agr(mb:Nat)(w:World):Calls Tryz.prog 81 #[.map (some mb)] w fun e w'=>e= .returned (.func (.func 124) #[] #[Aw w.heap.size])/\w'=w.alloc (.cells #[.map (some mb)] 172):=
 (callsIn_wide (n:=5)).1 (AnyZI.keys_in Tryz.keysA Fence.wide 5 trivial rfl (some mb) w)
theorem Tryz.sortsA(m:Nat):AnyZI.SortsIn Tryz.prog Tryz.sortedA_ren Fence.wide m:=
 ⟨fun blk off cap ss W hH hblk hsz=>callsIn_wide.2 (AnyM.slices_Sort_int Tryz.sortA blk off cap ss W hH hblk hsz),
  fun p cap W=>callsIn_wide.2 (AnyM.slices_Sort_int_none Tryz.sortA p cap W)⟩
theorem qw(bx mb:Nat)(w:World)(met:List Int)(hc:w.cell? ⟨bx,0,none⟩=some (.map (some mb)))(hm:Kt w mb (met.map fun o=>(o,1)))(hn:met.Nodup)(hr:∀o∈met,0<=o/\o<=65536):
 Calls Tryz.prog 80 #[.func (.func 124) #[] #[Aw bx]] w fun e w'=>∃v,e= .returned v/\
  w'.ownsRow w.heap.size 3 1 v met.length ((met.mergeSort (fun x y=>decide (x<=y))).map (Value.int .i64))/\Below w.heap.size w w':=by
 have hbx:=World.block_lt_of_cell? w _ hc;have hlen:met.length<=65537:=OY 65537 met hn (fun o ho=>by have:=hr o ho;omega);obtain⟨D,hD,hpm,hsz⟩:=hm.owns (by rw [GM];simpa [Function.comp_def]using hn) (fun p hp=>by
  obtain⟨o,ho,rfl⟩:=Bf.1 hp;have:=hr o ho;exact⟨wf64 (by simp only;omega) (by simp only;omega),wf64 (by simp only;omega) (by simp only;omega)⟩) (by rw [BH];unfold maxLen;omega)
 rw [GM]at hpm;replace hpm:(intKeys D).Perm met:=by simpa [Function.comp_def]using hpm
 rw [BH]at hsz;have hseq:=AnyZI.keys_gives (ρ:=Tryz.keysA_ren) {Tryz.keysA with} Fence.wide 2 trivial rfl (by omega) bx mb _ D w hbx hc hD;have cS:=AnyZI.sorted_in Tryz.sortedA Fence.wide 5 trivial trivial trivial trivial rfl (by omega) (Tryz.sortsA _) (enters_of Tryz.func41 (by kernel_rfl) rfl) 124 #[Aw bx] trivial (enters_of Tryz.func124 (by kernel_rfl) rfl) _ _ (by rw [hsz];unfold maxLen;omega) (by rw [hsz];omega) _ hseq;refine((callsIn_wide (n:=5)).1 cS).mono ?_;rintro e w'⟨v,ss,rfl,hS,hrow,_,hb⟩;have hsm:ss.Perm met:=hS.trans hpm;rw [hsm.length_eq,mergeSort_of_perm_i hsm]at hrow;exact⟨v,rfl,hrow,hb⟩
def Ags(l:List Int):List Int:=l.mergeSort fun x y=>decide (x<=y)
section
variable{len:Mode}{w w':World}{x d p L:Nat}{s:St}{F:Nat->Prop}
def Ac2(s:St)(w:World)(e:Ending)(w':World):Prop:=
 Below w.heap.size w w'/\match DU s with
  | none=>e= .returned (.tuple #[.slice none 0 0,.int .i64 5])
  | some (_,met)=>∃v,e= .returned (.tuple #[v,.int .i64 0])/\w'.ownsRow w.heap.size 3 1 v met.length ((Ags met).map (Value.int .i64))/\met.length<=65537
theorem RZ(h:IX len w x d p L s F):Calls Tryz.prog 37 #[Aw x] w (Ac2 s w):=by
 have HS:=Aa (Vd h);cases hv:DU s with
 | none=>
   have HV:=Aa hv;clear h hv;go_enter Tryz.func37,Tryz.ntmps37
   go_wp2_with fail
   refine HS.out.mono ?_;rintro e w1⟨hb1,hp1⟩;rw [HV.out]at hp1;replace hp1:e= .returned (.tuple #[.pointer none,.int .i64 5]):=hp1;subst hp1;have HB:=Aa hb1;clear hb1 HS
   go_wp2_with fail
   go_ret2;refine⟨HB.out,?_⟩;rw [HV.out];rfl
 | some im=>
   obtain⟨i2,m2⟩:=im;have HV:=Aa hv;clear h hv;go_enter Tryz.func37,Tryz.ntmps37
   go_wp2_with fail
   refine HS.out.mono ?_;rintro e w1⟨hb1,hp1⟩;rw [HV.out]at hp1;obtain⟨sb,mb,v,rfl,hs1⟩:=hp1;have z2:=hs1.box.cell 2;simp only [Az,Aj]at z2;have HB:=Aa hb1;have HSv:=Aa hs1;clear hb1 HS hs1
   go_wp2_with fail
   refine(Agr mb w1).mono ?_;rintro e w2⟨rfl,hw2⟩;have GX:Below w1.heap.size w1 w2:=hw2▸(Below.refl _ _).alloc (Ad _) _;have hc2:w2.cell? ⟨w1.heap.size,0,none⟩=some (.map (some mb)):=by
    have B:CG w2 w1.heap.size 172 [.map (some mb)]:=hw2▸heap_alloc_new _ _;exact B.cell 0
   have hSt:=HSv.out.below GX;have HSo:=Aa (qw w1.heap.size mb w2 m2 hc2 hSt.map hSt.vX hSt.rng);have HB2:=Aa (HB.out.trans (GX.mono HB.out.size));have HL:Hid (m2.length<=65537):=Aa (OY 65537 m2 hSt.vX (fun o ho=>by have:=hSt.rng o ho;omega));clear hw2 GX hc2 hSt z2
   go_wp2_with fail
   refine HSo.out.mono ?_;rintro e w3⟨v3,rfl,ho3,hb3⟩;have HB3:=Aa (HB2.out.trans (hb3.mono HB2.out.size));have iZ:=Aa (fJ ho3 HB2.out.size);clear hb3 ho3 HSo
   go_wp2_with fail
   go_ret2;refine⟨HB3.out,?_⟩;rw [HV.out];exact⟨v3,rfl,iZ.out,HL.out⟩
def Ac3(len:Mode)(s:St)(w:World)(d p L:Nat)(F:Nat->Prop)(e:Ending)(w':World):Prop:=
 Below w.heap.size w w'/\match DU s with
  | none=>e= .returned (.tuple #[.pointer none,.int .i64 5])
  | some _=>∃x,e= .returned (.tuple #[Aw x,.int .i64 0])/\IX len w' x d p L s F/\w.heap.size<=x
theorem Um(h:Ej len w d p L s F):Calls Tryz.prog 28 #[Aw d,Aw p] w (Ac3 len s w d p L F):=by
 have hFl:=h.lt;obtain⟨w2,hw2,hb2, -⟩:=FB w 154 [Aw d,Aw p];have hI:IX len w2 w.heap.size d p L s F:=⟨h.below hb2,hw2▸heap_alloc_new _ _,fun hf=>by have:=hFl _ hf;omega⟩;have hsz:Calls Tryz.prog 32 #[Aw d] w fun e w'=>e= .returned (.int .i64 (L*64:Nat))/\w=w':=by
  obtain⟨tb,hb,n,cT,cH,own,h,_⟩:=h;exact h.dev.size h.L1
 have hL0:0<L:=by obtain⟨tb,hb,n,cT,cH,own,h,_⟩:=h;exact h.L0
 have t0:(((L*64:Nat):Int)==0)=false:=by rw [beq_eq_false_iff_ne];omega
 generalize L*64=sz at hsz t0;have ax:=Aa hsz;have HN:=Aa (RZ hI);have HI:=Aa hI;have HB2:=Aa hb2;have HW2:=Aa hw2;clear h hsz hI hb2 hw2 hFl;go_enter Tryz.func28,Tryz.ntmps28
 go_wp2_with fail
 refine ax.out.mono ?_;rintro e w1⟨rfl,rfl⟩;clear ax
 go_wp2_with fail
 rw [<-HW2.out];refine HN.out.mono ?_;rintro e w3⟨hb3,hp3⟩;have HB3:=Aa (HB2.out.trans (hb3.mono HB2.out.size));have HI3:=Aa (HI.out.below hb3);cases hv:DU s with
 | none=>
   rw [hv]at hp3;replace hp3:e= .returned (.tuple #[.slice none 0 0,.int .i64 5]):=hp3;subst hp3;have HV:=Aa hv;clear hv hb3 HN
   go_wp2_with fail
   go_ret2;refine⟨HB3.out,?_⟩;rw [HV.out];rfl
 | some im=>
   obtain⟨i2,m2⟩:=im;rw [hv]at hp3;obtain⟨v3,rfl,ho3,_⟩:=hp3;obtain⟨A3,c3,rfl⟩:∃A c,v3= .slice A m2.length c:=by
    rcases ho3.2 with⟨h1,h2⟩| ⟨g,cap,cur,h1,_⟩
    ·exact⟨none,0,by rw [h1,h2]⟩
    ·exact⟨_,_,h1⟩
   have HV:=Aa hv;clear hv hb3 HN ho3
   go_wp2_with fail
   go_ret2;refine⟨HB3.out,?_⟩;rw [HV.out];exact⟨_,rfl,HI3.out,Ad _⟩
end
end Go.Proofs.YtkimaejoeapmnaaGreatDoor
namespace Go.Proofs.YtkimaejoeapmnaaGreatDoor
open Go.RowKit
def wV(d p x:Nat):Value:= .agg #[Aw d,Aw p,Aw x]
theorem xA(sh:Sh):DU (st0 sh)=some ([],[]):=by
 unfold DU;rw [if_pos (show(st0 sh).ws 9=0 from Il sh 9 (by decide))]
theorem zM{w:World}{L:Nat}{sh:Sh}(hL0:0<L)(hL:L<=1024)(hs:shapeOf L=some sh)(hT:Tabs w):Calls Tryz.prog 14 #[.int .i64 (L:Int)] w fun e w'=>∃d p x F,e= .returned (.tuple #[wV d p x,.bool true])/\
 Ix w' x d p L (st0 sh) F/\Below w.heap.size w w'/\(∀b,F b->w.heap.size<=b)/\w.heap.size<=x:=by
 obtain⟨W0,hW0,hb0,B0⟩:=FB w 49 [.pointer none,.pointer none,.pointer none];have HB0:=Aa (vI hL0 hL hs (hT.below hb0));have Hb0:=Aa hb0;have Tt:=Aa B0;have HW0:=Aa hW0;have jB:=Aa hT.lt;clear hT hs hb0 B0 hW0;go_enter Tryz.func14,Tryz.ntmps14
 go_wp2_with fail
 rw [<-HW0.out];refine HB0.out.mono ?_;rintro e w1⟨d,p,F,rfl,hs1,hb1,hF1⟩;have HO:=Aa (Um hs1);have HB1:=Aa (Hb0.out.trans (hb1.mono Hb0.out.size));have UQ:=Aa (Tt.out.below hb1 Tt.out.lt);have HF1:Hid (∀b,F b->w.heap.size<b):=Aa (fun b hb=>by have:=hF1 b hb;have:=Tt.out.lt;omega);clear HB0 hs1 hb1 hF1
 go_wp2_with fail
 refine HO.out.mono ?_;rintro e w2⟨hb2,hp2⟩;rw [xA]at hp2;obtain⟨x,rfl,hx2,hxw⟩:=hp2;have hB2:=UQ.out.below hb2 UQ.out.lt;have HB2:=Aa (HB1.out.trans (hb2.mono HB1.out.size));have vg:=Aa hx2;have Au2:w.heap.size<x:=Nat.lt_of_lt_of_le UQ.out.lt hxw;have f0:=hB2.frozen 0;have f1:=hB2.frozen 1;have f2:=hB2.frozen 2;obtain⟨c0,c1,c2⟩:=hB2.p3;have Au3:=Aa hB2;clear HO hb2 hx2 hxw hB2
 go_wp2_with fail
 have K:=((Au3.out.AZ 0 (Aw d)).AZ 1 (Aw p)).AZ 2 (Aw x);have q0:=K.cell 0;have q1:=K.cell 1;have q2:=K.cell 2;simp only [Am,Aq,Aj,Az]at q0 q1 q2;have t3:Touch (fun k=>k=w.heap.size) w2 (((w2.setCell ⟨w.heap.size,0,none⟩ (Aw d)).setCell ⟨w.heap.size,1,none⟩ (Aw p)).setCell ⟨w.heap.size,2,none⟩ (Aw x)):=
  (((Touch.refl (fun k=>k=w.heap.size) w2).setCell (p:=⟨w.heap.size,0,none⟩) (.inl rfl) _).setCell (p:=⟨w.heap.size,1,none⟩) (.inl rfl) _).setCell (p:=⟨w.heap.size,2,none⟩) (.inl rfl) _
 refine bodyPost_ret (v:= .tuple #[wV d p x,.bool true]) (by simp [results,Tryz.results14,go_sem,q0,q1,q2,wV]) rfl ?_;refine⟨d,p,x,F,rfl,⟨vg.out.sys.keep t3 (fun b hb e=>by have:=HF1.out b hb;omega) (by have:=jB.out;omega) (by have:=jB.out;omega),vg.out.box.touch t3 (by show x≠_;omega),vg.out.out⟩,?_,fun b hb=>IC (HF1.out b hb),IC Au2⟩;exact((HB2.out.setCell (p:=⟨w.heap.size,0,none⟩) (Ad _) _).setCell (p:=⟨w.heap.size,1,none⟩) (Ad _) _).setCell (p:=⟨w.heap.size,2,none⟩) (Ad _) _
theorem Anj{len:Mode}{w:World}{x d p L:Nat}{s:St}{F:Nat->Prop}(h:Ej len w d p L s F):Calls Tryz.prog 46 #[wV d p x] w fun e w'=>e= .returned (.int .u64 ((s.ws 8).toNat:Int))/\Below w.heap.size w w':=by
 obtain⟨W0,hW0,hb0,B0⟩:=FB w 49 [Aw d,Aw p,Aw x];have c0:=B0.p1;have hL2:=h.pos.2.2.1.fits;have hL3:=h.pos.2.2.1.MK;have HL:=Aa ((h.below hb0).load 8 (by omega));rw [show((8*8:Nat):Int)=64 from rfl]at HL;have HB0:=Aa hb0;have HW0:=Aa hW0;clear h hb0 hW0 B0 hL2 hL3;unfold wV;go_enter Tryz.func46,Tryz.ntmps46
 go_wp2_with fail
 rw [<-HW0.out]
 go_wp2_with fail
 refine HL.out.mono ?_;rintro e w1⟨rfl,rfl⟩
 go_wp2_with fail
 go_ret;exact⟨rfl,HB0.out⟩
theorem Tz{P:Program}{md:Region.Mode}{ops:Array Oper}{Q:Exit->Act->World->Prop}{S S':World->Prop}(hs:∀w,S' w->S w):∀(fuel:Nat)(listed:Array Bool)(a:Act)(w:World),wpAnyH P md ops Q S' fuel listed a w->wpAnyH P md ops Q S fuel listed a w
 | 0,_,_,_,h=>h
 | fuel+1,_,_,_,h=>⟨h.1,fun i hi=>wpOp_mono (fun a' w' h'=>⟨hs w' h'.1,Tz hs fuel _ a' w' h'.2⟩) (h.2 i hi)⟩
section
variable{len:Mode}{w:World}{x d p L:Nat}{s:St}{F:Nat->Prop}
end
section
variable{w:World}{x d p L:Nat}{s:St}{F:Nat->Prop}{items:List Kv}{ch:List UInt8->List Lk}
theorem fO{w w1 w':World}{F F':Nat->Prop}{jb:Nat}{v:Value}(hb:Below w.heap.size w w1)(hjb:w.heap.size<=jb)(m:AO (JG F jb (.slice none 0 0)) (JG F' jb v) w1 w'):AO F F' w w':=
 ⟨(Touch.of_below (F:=F) hb).trans m.touch (fun b h=>by
   rcases h with h| h| h
   ·exact .inl h
   ·exact .inr (by omega)
   ·cases h),fun b h=>by
   rcases m.own b (.inl h)with(h| h| h)| h
   ·exact .inl h
   ·exact .inr (by omega)
   ·cases h
   ·exact .inr (Nat.le_trans hb.size h)⟩
theorem Agt{l:List Wr}(hr:∀y∈l,ER y=true)(hu:UpS l)(hl:l.length<=16){a b:UInt64}(h1:a.toNat<b.toNat)(h2:b.toNat<=60000):RY a b l=true:=by
 unfold RY;rw [decide_eq_true h1,decide_eq_true h2,fM hl (fun j hj=>hr _ (List.getElem_mem hj)) (fun j h _=>hu.lt (by omega) h (Nat.lt_succ_self j))];rfl
theorem zN{md:Mode}(h:IX md w x d p L s F){v:Value}{l:List Wr}{G:Nat->Prop}(hset:Ju w G v l)(hr:∀y∈l,ER y=true)(hu:UpS l)(hl:l.length<=16)(h8:(s.ws 8).toNat<60000)(J:Nat->Value->Nat->World->Prop)(Q:Int->World->Prop)
 (h0:∀jb vs w1,w.heap.size<=jb->Below w.heap.size w w1->Fv md w1 w.heap.size jb x d p L s (s.ws 8+1) vs l [] false 0 F (.slice none 0 0)->J jb vs 0 w1)
 (hst:∀jb vs k wr,k<=l.length->J jb vs k wr->Calls Tryz.prog 47 #[Aw jb] wr fun e w'=>(e= .returned (.tuple #[.bool false,.int .i64 0])/\k<l.length/\J jb vs (k+1) w')\/∃c:Int,e= .returned (.tuple #[.bool true,.int .i64 c])/\Q c w'):
 Calls Tryz.prog 15 #[wV d p x,v] w fun e w'=>∃c:Int,e= .returned (.int .i64 c)/\Q c w':=by
 obtain⟨W0,hW0,hb0,B0⟩:=FB w 49 [Aw d,Aw p,Aw x];obtain⟨y0,y1,y2⟩:=B0.p3;obtain⟨A,c,rfl⟩:=hset.slice;obtain⟨stamp,xB⟩:∃stamp,stamp=s.ws 8+1:=⟨_,rfl⟩;have hsn:stamp.toNat=(s.ws 8).toNat+1:=by rw [xB,UInt64.toNat_add];simp;omega
 have hwk:IntKind.u64.wrap (((s.ws 8).toNat:Int)+1)=(stamp.toNat:Int):=by rw [hsn,IntKind.wrap_u64];omega
 have HN:Hid (RY (s.ws 8) stamp l=true):=Aa (Agt hr hu hl (by omega) (by omega));have hsz:∀y∈l,y.key.size<=4294967296/\y.text.size<=4294967296:=fun y hy=>by
  have:=hr y hy;unfold ER at this;simp only [Bool.and_eq_true,decide_eq_true_eq]at this;omega
 have HWB:Hid (∀W',Below W0.heap.size W0 W'->W'.cell? ⟨w.heap.size,0,none⟩=some (Aw d)/\W'.cell? ⟨w.heap.size,1,none⟩=some (Aw p)/\W'.cell? ⟨w.heap.size,2,none⟩=some (Aw x)):=Aa (fun W' k=>⟨(B0.below k B0.lt).cell 0,(B0.below k B0.lt).cell 1,(B0.below k B0.lt).cell 2⟩);have HSl:=Aa (fun W'(k:Below W0.heap.size W0 W')=>Anj (x:=x) (((h.below hb0).below k).sys));have HNw:=Aa (fun W'(k:Below W0.heap.size W0 W')=>jW (x:=x) (((h.below hb0).below k).sys) ((hset.below hb0).below k) (by omega) hsz stamp);have HB0:=Aa hb0;have HW0:=Aa hW0;have HX:=Aa h;have H0:Hid (∀jb vs w1,w.heap.size<=jb->Below w.heap.size w w1->Fv md w1 w.heap.size jb x d p L s stamp vs l [] false 0 F (.slice none 0 0)->J jb vs 0 w1):=Aa (fun jb vs w1=>by rw [xB];exact h0 jb vs w1);have Au4:=Aa hst;have HSn:=Aa hsn;have hs0:stamp.toNat≠0:=by omega
 clear h hset hr hu hst h0 hsz hb0 hW0 B0 xB h8 hsn;unfold wV at HSl⊢;go_enter Tryz.func15,Tryz.ntmps15
 go_wp2_with fail
 rw [<-HW0.out]
 try go_wp2_with fail
 refine wp_region_held_drew (S:=(fun w'=>w'.cell? ⟨w.heap.size,0,none⟩=some (Aw d)/\w'.cell? ⟨w.heap.size,1,none⟩=some (Aw p)/\w'.cell? ⟨w.heap.size,2,none⟩=some (Aw x))) (by kernel_rfl) ⟨y0,y1,y2⟩ (fun hHeld=> ?_);refine Ef 0 (Aw w.heap.size) hHeld ?_;refine Ef 1 (Aw d) hHeld (hy:=fun w hSw=>by obtain⟨s0,s1,s2⟩:=hSw;go_simp) ?_;refine Ef 2 (.pointer (some ⟨w.heap.size,1,none⟩)) hHeld ?_;refine Ef 3 (Aw p) hHeld (hy:=fun w hSw=>by obtain⟨s0,s1,s2⟩:=hSw;go_simp) ?_
 try simp only [Act.put,Ap,Ah,Ag,Ae,Am,Aq]
 refine Ef 4 (.pointer (some ⟨w.heap.size,2,none⟩)) hHeld ?_;refine Ef 5 (Aw x) hHeld (hy:=fun w hSw=>by obtain⟨s0,s1,s2⟩:=hSw;go_simp) ?_;refine Ef 6 (.agg #[Aw d,Aw p,Aw x]) hHeld (hy:=fun w hSw=>by obtain⟨s0,s1,s2⟩:=hSw;go_simp) ?_;refine Ef 9 (.slice A l.length c) hHeld ?_
 try simp only [Act.put,Ap,Ah,Ag,Ae,Am,Aq]
 refine wpAnyH_ready (rs:=[7]) (by kernel_rfl) (by simp) ?_;refine AllReadyH.cons rfl (fun K hK=> ?_) AllReadyH.nil;go_simp;go_at_call 46;refine(HSl.out _ ((Dr.drew _).below _)).mono ?_;rintro e w10⟨rfl,VK⟩;have ZT:Below W0.heap.size W0 w10:=((Dr.drew W0).below _).trans VK;refine hK.out _ _ (HWB.out _ ZT) (fun hHeld=> ?_);clear hK K
 try simp only [Act.put,Ap,Ah,Ag,Ae,Am,Aq]
 refine Ef 8 (.int .u64 (stamp.toNat:Int)) hHeld ?_
 try simp only [Act.put,Ap,Ah,Ag,Ae,Am,Aq]
 refine wpAnyH_ready (rs:=[10]) (by kernel_rfl) (by simp) ?_;refine AllReadyH.cons rfl (fun K hK=> ?_) AllReadyH.nil;go_simp;go_at_call 45;refine(HNw.out _ ZT).mono ?_;rintro e w11⟨bI,Ar3,_⟩;have qx:Below W0.heap.size W0 w11:=ZT.trans (bI.mono ZT.size);obtain⟨jb,vs,rfl,hjb,hjB,hjS⟩:=Ar3 HN.out;refine hK.out _ _ (HWB.out _ qx) (fun hHeld=> ?_);clear hK K
 try simp only [Act.put,Ap,Ah,Ag,Ae,Am,Aq]
 refine Ef 11 (.tuple #[Aw jb,.int .i64 0]) hHeld ?_;refine Ef 12 (Aw jb) hHeld ?_;refine Ef 13 (.int .i64 0) hHeld ?_;refine Ef 14 (Aw jb) hHeld ?_
 try simp only [Act.put,Ap,Ah,Ag,Ae,Am,Aq]
 refine Ef 15 (.int .i64 0) hHeld ?_
 try simp only [Act.put,Ap,Ah,Ag,Ae,Am,Aq]
 refine wpAnyH_done (by kernel_rfl) ?_ _;have hlt:=HX.out.sys.lt;have htb:=HX.out.sys.tabs.lt;have hxl:=HX.out.box.lt;have hsz0:=HB0.out.size;have oO:w.heap.size<=jb:=by have:=qx.size;have:=ZT.size;omega
 have hC:Fv md w11 w.heap.size jb x d p L s stamp vs l [] false 0 F (.slice none 0 0):=⟨(HX.out.below HB0.out).below (qx.mono (Ad _)),hjB,World.ownsRow_nil _ _ _ _,hjS _ (fun b h1 h2 h=>by
  rcases h with h| h| h
  ·have:=hlt b h;have:=ZT.size;omega
  ·omega
  ·cases h),fun h=>by have:=hlt jb h;omega,oO,hxl,htb,(fun h=>nomatch h),(fun b h=>nomatch h)⟩
 have qy:Hid (Below w.heap.size w w11):=Aa (HB0.out.trans (qx.mono HB0.out.size));have HJ0:=Aa (H0.out jb vs w11 oO qy.out hC);clear hlt htb hxl hsz0 hC qx ZT VK bI Ar3 hjB hjS hHeld y0 y1 y2 HSl HNw HWB hjb hwk H0
 go_wp2_with fail
 go_loopw [30](fun i wr=>∃k:Nat,k<=l.length/\i= .int .i64 (k:Nat)/\J jb vs k wr)(fun i _=>20- (intOf i).toNat)
 case atStart=>exact⟨0,Nat.zero_le _,rfl,HJ0.out⟩
 case round=>
  obtain⟨k,hk,rfl,hJk⟩:=hrel;have Ank:=Aa (Au4.out jb vs k wr hk hJk);have hx1:(k:Int)<20:=by omega
  have hx2:decide ((k:Int)<20)=true:=decide_eq_true hx1;have hwk:=lh k (by omega);clear hJk HJ0
  go_wp2_with fail
  refine Ank.out.mono ?_;rintro e w5(⟨rfl,hkl,hJ5⟩| ⟨c,rfl,hQ5⟩)
  ·have H1:=Aa hJ5;clear hJ5 Ank
   go_wp2_with fail
   go_roundw
   case rel=>exact⟨k+1,by omega,by go_num,H1.out⟩
   case measure=>simp [intOf];omega
  ·have H1:=Aa hQ5;clear hQ5 Ank
   go_wp2_with fail
   go_ret;exact⟨c,rfl,H1.out⟩
end
