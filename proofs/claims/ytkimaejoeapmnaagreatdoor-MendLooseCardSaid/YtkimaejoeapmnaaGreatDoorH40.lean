import Derived.Test.YtkimaejoeapmnaaGreatDoorH38
import Derived.Test.YtkimaejoeapmnaaGreatDoorH39
set_option linter.defProp false
set_option maxHeartbeats 32000000
set_option maxRecDepth 100000
open List renaming mem_cons->CJ,mem_cons_self->Bh,mem_cons_of_mem->BH,map_append->Dx,mem_map->Ba,map_map->Gp,length_map->BJ,getElem?_cons_succ->AA,getElem?_cons_zero->Am,set_cons_zero->Aj,set_cons_succ->Aq,getElem_mem->BI,getElem_toArray->Ap,getElem_cons_succ->Ah,getElem_cons_zero->Ag,setIfInBounds_toArray->Ae
open Go.Lib renaming hid->Aa
open Nat renaming le_refl->Ad,lt_of_lt_of_le->BQ,le_of_lt->IW,le_trans->Bc
open Go.Value renaming slice->Ac
open UInt64 renaming toNat_add->Abm
namespace Go.Proofs.YtkimaejoeapmnaaGreatDoor
open Go.Proofs.Tryz
open Go.RowKit Go.Maps
def sO:∀(l:List (Int×Int))(i:Nat)(x:MapEntry),x∈Ik i l->∃p∈l,x.key= .int .i64 p.1
 | [],i,x,hx=>by cases hx
 | p::t,i,x,hx=>by
   rcases CJ.1 hx with rfl| hx
   ·exact⟨p,Bh ..,rfl⟩
   ·obtain⟨q,hq,e⟩:=sO t _ x hx;exact⟨q,BH _ hq,e⟩
def VN:∀(n:Nat)(l:List (Int×Int)),l.length=n->(l.map (·.1)).Nodup->Go.MapKept.Stamped (Ik 0 l).toArray l.length
 | 0,l,hl,_=>by
   have:l=[]:=List.eq_nil_of_length_eq_zero hl;subst this;exact Go.MapKept.stamped_empty 0
 | n+1,l,hl,h=>by
   rcases List.eq_nil_or_concat l with rfl| ⟨t,a,rfl⟩
   ·simp at hl
   ·rw [List.concat_eq_append]at hl h⊢;obtain⟨o,v⟩:=a;rw [Dx,List.nodup_append]at h;have h1:=VN n t (by simpa using hl) h.1;rw [ZI,List.length_append];have h2:=Go.MapKept.stamped_push h1 (key:= .int .i64 o) (val:= .int .i64 v) (λx hx e=>by
     obtain⟨p,hp,e2⟩:=sO t 0 x (by simpa using hx);rw [e2]at e;injection e with _ e
     exact h.2.2 p.1 (Ba.2 ⟨p,hp,rfl⟩) o Θ e)
    simpa using h2
def wf64{x:Int}(h: -9223372036854775808<=x)(k:x<=9223372036854775807):(Lit.int .i64 x).wf=true:=by
 have h1:IntKind.i64.min= -9223372036854775808:=by decide
 have h2:IntKind.i64.max=9223372036854775807:=by decide
 simp only [Lit.wf,h1,h2,Bool.and_eq_true,decide_eq_true_eq];exact⟨h,k⟩
def KN.owns{w:World}{mb:Nat}{l:List (Int×Int)}(h:KN w mb l)(hn:(l.map (·.1)).Nodup)(hr:∀p∈l,(Lit.int .i64 p.1).wf=true/\(Lit.int .i64 p.2).wf=true)(hl:l.length<=maxLen):
 ∃D:DataW Unit,w.ownsMap prog 3 (plainElem prog 3) mb l.length D/\(intKeys D).Perm (l.map (·.1))/\Maps.size D=l.length:=by
 have hrd:∀(l:List (Int×Int))(i:Nat),(∀p∈l,(Lit.int .i64 p.1).wf=true/\(Lit.int .i64 p.2).wf=true)->∀x∈Ik i l,∃p∈l,Go.WideElems.rd prog 3 (plainElem (H:=Unit) prog 3) x=some (.int .i64 p.1,.lit (.int .i64 p.2)):=by
  intro l;induction l with
  | nil=>intro i _ x hx;cases hx
  | cons p t ih=>
    intro i hr x hx;rcases CJ.1 hx with rfl| hx
    ·refine⟨p,Bh ..,?_⟩;obtain⟨h1,h2⟩:=hr p (Bh ..);exact Go.WideElems.rd_mk (keyOf_int_mk underlying3 h1) (plainElem_int underlying3 h2)
    ·obtain⟨q,hq,e⟩:=ih _ (λp hp=>hr p (BH _ hp)) x hx;exact⟨q,BH _ hq,e⟩
 have hmap:∀(l:List (Int×Int))(i:Nat),(∀p∈l,(Lit.int .i64 p.1).wf=true/\(Lit.int .i64 p.2).wf=true)->(Ik i l).map (Go.WideElems.rg prog 3 (plainElem (H:=Unit) prog 3))=l.map λp=>(Lit.int .i64 p.1,DataW.lit (.int .i64 p.2)):=by
  intro l;induction l with
  | nil=>intro i _;rfl
  | cons p t ih=>
    intro i hr;obtain⟨h1,h2⟩:=hr p (Bh ..);simp only [Ik,List.map_cons];rw [ih _ (λp hp=>hr p (BH _ hp)),Go.WideElems.rg_of (Go.WideElems.rd_mk (keyOf_int_mk underlying3 h1) (plainElem_int underlying3 h2))]
 have hp:=Go.WideShapes.sorted_perm (l.map λp=>((Lit.int .i64 p.1,DataW.lit (.int .i64 p.2)):Lit×DataW Unit));refine⟨_,⟨_,_,h,⟨by simp [ZJ];exact hl,VN _ l rfl hn,λx hx=> ?_⟩,by simp [ZJ],rfl⟩,?_,?_⟩
 ·obtain⟨p,_,e⟩:=hrd l 0 hr x (by simpa using hx);exact⟨_,e⟩
 ·rw [show((Ik 0 l).toArray.toList)=Ik 0 l by simp,hmap l 0 hr];refine(hp.map (λp=>Go.intOf p.1)).trans ?_;rw [Gp];exact List.Perm.of_eq rfl
 ·rw [show((Ik 0 l).toArray.toList)=Ik 0 l by simp,hmap l 0 hr];show(List.foldr DataW.insert [] _).length=_;rw [hp.length_eq,BJ]
def Ah7(mb:Nat)(w:World):Calls prog 81 #[.map (some mb)] w λe w'=>e= .returned (.func (.func 124) #[] #[Az w.heap.size])/\w'=w.alloc (.cells #[.map (some mb)] 172):=
 (callsIn_wide (n:=5)).1 (AnyZI.keys_in Tryz.keysA Fence.wide 5 trivial rfl (some mb) w)
def Tryz.sortsA(m:Nat):AnyZI.SortsIn prog Tryz.sortedA_ren Fence.wide m:=
 ⟨λblk off cap ss W hH hblk hsz=>callsIn_wide.2 (AnyM.slices_Sort_int Tryz.sortA blk off cap ss W hH hblk hsz),
  λp cap W=>callsIn_wide.2 (AnyM.slices_Sort_int_none Tryz.sortA p cap W)⟩
def sQ(bx mb:Nat)(w:World)(met:List Int)(hc:w.cell? (Φ bx)=some (.map (some mb)))(hm:KN w mb (met.map λo=>(o,1)))(hn:met.Nodup)(hr:∀o∈met,0<=o/\o<=65536):
 Calls prog 80 #[.func (.func 124) #[] #[Az bx]] w λe w'=>∃v,e= .returned v/\
  w'.ownsRow w.heap.size 3 1 v met.length ((met.mergeSort (λx y=>decide (x<=y))).map (Value.int .i64))/\η w w':=by
 have hbx:=World.block_lt_of_cell? w _ hc;have hlen:met.length<=65537:=PH 65537 met hn (λo ho=>Ω (hr o ho));obtain⟨D,hD,hpm,hsz⟩:=hm.owns (by rw [Gp];simpa [Function.comp_def]using hn) (λp hp=>by
  obtain⟨o,ho,rfl⟩:=Ba.1 hp;have:=hr o ho;exact⟨wf64 (by simp only;omega) (by simp only;omega),wf64 (by simp only;omega) (by simp only;omega)⟩) (by rw [BJ];unfold maxLen;omega)
 rw [Gp]at hpm;replace hpm:(intKeys D).Perm met:=by simpa [Function.comp_def]using hpm
 rw [BJ]at hsz;have hseq:=AnyZI.keys_gives (ρ:=Tryz.keysA_ren) {Tryz.keysA with} Fence.wide 2 trivial rfl O bx mb _ D w hbx hc hD;have cS:=AnyZI.sorted_in Tryz.sortedA Fence.wide 5 trivial trivial trivial trivial rfl O (Tryz.sortsA _) (enters_of func41 Γ rfl) 124 #[Az bx] trivial (enters_of func124 Γ rfl) _ _ (by rw [hsz];unfold maxLen;omega) (by rw [hsz];omega) _ hseq;refine((callsIn_wide (n:=5)).1 cS).mono ?_;rintro e w'⟨v,ss,rfl,hS,hrow,_,hb⟩;have hsm:ss.Perm met:=hS.trans hpm;rw [hsm.length_eq,mergeSort_of_perm_i hsm]at hrow;exact⟨v,rfl,hrow,hb⟩
def Ams(l:List Int):List Int:=l.mergeSort λx y=>decide (x<=y)
section
variable{len:Mode}{w w':World}{x d p L:Nat}{s:St}{F:Nat->Prop}
def Aed(s:St)(w:World)(e:Ending)(w':World):Prop:=
 η w w'/\match DJ s with
  | none=>e= .returned (.tuple #[.slice none 0 0,.int .i64 5])
  | some (_,met)=>∃v,e= .returned (.tuple #[v,.int .i64 0])/\w'.ownsRow w.heap.size 3 1 v met.length ((Ams met).map (Value.int .i64))/\met.length<=65537
def XT(h:Jd len w x d p L s F):Calls prog 37 #[Az x] w (Aed s w):=by
 have HS:=Aa (VG h);cases hv:DJ s with
 | none=>
   have HV:=Aa hv;clear h hv;go_enter func37,ntmps37
   go_wp2_with fail
   refine HS.out.mono ?_;rintro e w1⟨hb1,hp1⟩;rw [HV.out]at hp1;replace hp1:e= .returned (.tuple #[.pointer none,.int .i64 5]):=hp1;subst hp1;have HB:=Aa hb1;clear hb1 HS
   go_wp2_with fail
   go_ret2;refine⟨HB.out,?_⟩;rw [HV.out];rfl
 | some im=>
   obtain⟨i2,m2⟩:=im;have HV:=Aa hv;clear h hv;go_enter func37,ntmps37
   go_wp2_with fail
   refine HS.out.mono ?_;rintro e w1⟨hb1,hp1⟩;rw [HV.out]at hp1;obtain⟨sb,mb,v,rfl,hs1⟩:=hp1;have z2:=hs1.box.cell 2;simp only [AA,Am]at z2;have HB:=Aa hb1;have HSv:=Aa hs1;clear hb1 HS hs1
   go_wp2_with fail
   refine(Ah7 mb w1).mono ?_;rintro e w2⟨rfl,hw2⟩;have Ha:η w1 w2:=hw2▸(Below.refl _ _).alloc (Ad _) _;have hc2:w2.cell? (Φ w1.heap.size)=some (.map (some mb)):=by
    have B:CS w2 w1.heap.size 172 [.map (some mb)]:=hw2▸heap_alloc_new _ _;exact B.cell 0
   have hSt:=HSv.out.below Ha;have HSo:=Aa (sQ w1.heap.size mb w2 m2 hc2 hSt.map hSt.xQ hSt.rng);have HB2:=Aa (τ HB.out Ha);have HL:Hid (m2.length<=65537):=Aa (PH 65537 m2 hSt.xQ (λo ho=>Ω (hSt.rng o ho)));clear hw2 Ha hc2 hSt z2
   go_wp2_with fail
   refine HSo.out.mono ?_;rintro e w3⟨v3,rfl,ho3,hb3⟩;have HB3:=Aa (τ HB2.out hb3);have kF:=Aa (iR ho3 HB2.out.size);clear hb3 ho3 HSo
   go_wp2_with fail
   go_ret2;refine⟨HB3.out,?_⟩;rw [HV.out];exact⟨v3,rfl,kF.out,HL.out⟩
def Aee(len:Mode)(s:St)(w:World)(d p L:Nat)(F:Nat->Prop)(e:Ending)(w':World):Prop:=
 η w w'/\match DJ s with
  | none=>e= .returned (.tuple #[.pointer none,.int .i64 5])
  | some _=>∃x,e= .returned (.tuple #[Az x,.int .i64 0])/\Jd len w' x d p L s F/\w.heap.size<=x
def UG(h:Ew len w d p L s F):Calls prog 28 #[Az d,Az p] w (Aee len s w d p L F):=by
 have hFl:=h.lt;obtain⟨w2,hw2,hb2, -⟩:=EZ w 154 [Az d,Az p];have hI:Jd len w2 w.heap.size d p L s F:=⟨h.below hb2,hw2▸heap_alloc_new _ _,λhf=>Ω (hFl _ hf)⟩;have hsz:Calls prog 32 #[Az d] w λe w'=>e= .returned (.int .i64 (L*64:Nat))/\w=w':=by
  obtain⟨tb,hb,n,cT,cH,own,h,_⟩:=h;exact h.dev.size h.L1
 have hL0:0<L:=by obtain⟨tb,hb,n,cT,cH,own,h,_⟩:=h;exact h.L0
 have t0:(((L*64:Nat):Int)==0)=false:=by rw [beq_eq_false_iff_ne];omega
 generalize L*64=sz at hsz t0;have mZ:=Aa hsz;have HN:=Aa (XT hI);have HI:=Aa hI;have HB2:=Aa hb2;have HW2:=Aa hw2;clear h hsz hI hb2 hw2 hFl;go_enter func28,ntmps28
 go_wp2_with fail
 refine mZ.out.mono ?_;rintro e w1⟨rfl,rfl⟩;clear mZ
 go_wp2_with fail
 rw [<-HW2.out];refine HN.out.mono ?_;rintro e w3⟨hb3,hp3⟩;have HB3:=Aa (τ HB2.out hb3);have HI3:=Aa (HI.out.below hb3);cases hv:DJ s with
 | none=>
   rw [hv]at hp3;replace hp3:e= .returned (.tuple #[.slice none 0 0,.int .i64 5]):=hp3;subst hp3;have HV:=Aa hv;clear hv hb3 HN
   go_wp2_with fail
   go_ret2;refine⟨HB3.out,?_⟩;rw [HV.out];rfl
 | some im=>
   obtain⟨i2,m2⟩:=im;rw [hv]at hp3;obtain⟨v3,rfl,ho3,_⟩:=hp3;obtain⟨A3,c3,rfl⟩:∃A c,v3= .slice A m2.length c:=by
    rcases ho3.2 with⟨h1,h2⟩| ⟨g,cap,cur,h1,_⟩
    ·exact⟨none,0,by rw [h1,h2]⟩
    ·exact⟨_,_,h1⟩
   have HV:=Aa hv;clear hv hb3 HN ho3
   go_wp2_with fail
   go_ret2;refine⟨HB3.out,?_⟩;rw [HV.out];exact⟨_,rfl,HI3.out,Ad _⟩
end
end Go.Proofs.YtkimaejoeapmnaaGreatDoor
namespace Go.Proofs.YtkimaejoeapmnaaGreatDoor
open Go.Proofs.Tryz
open Go.RowKit
def wV(d p x:Nat):Value:= .agg #[Az d,Az p,Az x]
def yY(sh:Sh):DJ (st0 sh)=some ([],[]):=by
 unfold DJ;rw [if_pos (show(st0 sh).ws 9=0 from Iz sh 9 U)]
def Aa6{w:World}{L:Nat}{sh:Sh}(hL0:0<L)(hL:L<=1024)(hs:shapeOf L=some sh)(hT:Tabs w):Calls prog 14 #[.int .i64 (L:Int)] w λe w'=>∃d p x F,e= .returned (.tuple #[wV d p x,.bool true])/\
 Ix w' x d p L (st0 sh) F/\η w w'/\(∀b,F b->w.heap.size<=b)/\w.heap.size<=x:=by
 obtain⟨W0,hW0,hb0,B0⟩:=EZ w 49 [.pointer none,.pointer none,.pointer none];have HB0:=Aa (xw hL0 hL hs (hT.below hb0));have Hb0:=Aa hb0;have TV:=Aa B0;have HW0:=Aa hW0;have kX:=Aa hT.lt;clear hT hs hb0 B0 hW0;go_enter func14,ntmps14
 go_wp2_with fail
 rw [<-HW0.out];refine HB0.out.mono ?_;rintro e w1⟨d,p,F,rfl,hs1,hb1,hF1⟩;have HO:=Aa (UG hs1);have HB1:=Aa (τ Hb0.out hb1);have V6:=Aa (TV.out.ξ hb1);have HF1:Hid (∀b,F b->w.heap.size<b):=Aa (λb hb=>Ψ (hF1 b hb) TV.out.lt);clear HB0 hs1 hb1 hF1
 go_wp2_with fail
 refine HO.out.mono ?_;rintro e w2⟨hb2,hp2⟩;rw [yY]at hp2;obtain⟨x,rfl,hx2,hxw⟩:=hp2;have hB2:=V6.out.ξ hb2;have HB2:=Aa (τ HB1.out hb2);have xh:=Aa hx2;have Awd:w.heap.size<x:=BQ V6.out.lt hxw;have f0:=hB2.frozen 0;have f1:=hB2.frozen 1;have f2:=hB2.frozen 2;obtain⟨c0,c1,c2⟩:=hB2.p3;have Awe:=Aa hB2;clear HO hb2 hx2 hxw hB2
 go_wp2_with fail
 have K:=((Awe.out.AZ 0 (Az d)).AZ 1 (Az p)).AZ 2 (Az x);have q0:=K.cell 0;have q1:=K.cell 1;have q2:=K.cell 2;simp only [Aj,Aq,Am,AA]at q0 q1 q2;have t3:Touch (λk=>k=w.heap.size) w2 (((w2.setCell (Φ w.heap.size) (Az d)).setCell (Δ w.heap.size 1) (Az p)).setCell (Δ w.heap.size 2) (Az x)):=
  (((Touch.refl (λk=>k=w.heap.size) w2).setCell (p:=Φ w.heap.size) (.inl rfl) _).setCell (p:=Δ w.heap.size 1) (.inl rfl) _).setCell (p:=Δ w.heap.size 2) (.inl rfl) _
 refine bodyPost_ret (v:= .tuple #[wV d p x,.bool true]) (by simp [results,results14,go_sem,q0,q1,q2,wV]) rfl ?_;refine⟨d,p,x,F,rfl,⟨xh.out.sys.keep t3 (λb hb e=>Ω (HF1.out b hb)) (Ω kX.out) (Ω kX.out),xh.out.box.touch t3 (by show x≠_;omega),xh.out.out⟩,?_,λb hb=>IW (HF1.out b hb),IW Awd⟩;exact((HB2.out.setCell (p:=Φ w.heap.size) (Ad _) _).setCell (p:=Δ w.heap.size 1) (Ad _) _).setCell (p:=Δ w.heap.size 2) (Ad _) _
def Ao6{len:Mode}{w:World}{x d p L:Nat}{s:St}{F:Nat->Prop}(h:Ew len w d p L s F):Calls prog 46 #[wV d p x] w λe w'=>e= .returned (.int .u64 ((s.ws 8).toNat:Int))/\η w w':=by
 obtain⟨W0,hW0,hb0,B0⟩:=EZ w 49 [Az d,Az p,Az x];have c0:=B0.p1;have hL2:=h.pos.2.2.1.fits;have hL3:=h.pos.2.2.1.Le;have HL:=Aa ((h.below hb0).load 8 O);rw [show((8*8:Nat):Int)=64 from rfl]at HL;have HB0:=Aa hb0;have HW0:=Aa hW0;clear h hb0 hW0 B0 hL2 hL3;unfold wV;go_enter func46,ntmps46
 go_wp2_with fail
 rw [<-HW0.out]
 go_wp2_with fail
 refine HL.out.mono ?_;rintro e w1⟨rfl,rfl⟩
 go_wp2_with fail
 go_ret;exact⟨rfl,HB0.out⟩
structure LkV where
 A:Option Addr
 c:Nat
 l:List Lk
def lkV(y:LkV):Value:= .slice y.A y.l.length y.c
def QU(m:List (ByteArray×LkV)):List (ByteArray×Value):=m.map λq=>(q.1,lkV q.2)
def Ali(m:List (ByteArray×LkV))(q:ByteArray×LkV):QU (m++[q])=QU m++[(q.1,lkV q.2)]:=by simp [QU]
structure QV(w:World)(mb base:Nat)(m:List (ByteArray×LkV)):Prop where
 map:Jj w mb (QU m)
 rows:∀q∈m,LkR w q.2.A q.2.l/\q.2.l.length<=q.2.c/\∀a,q.2.A=some a->base<=a.block/\a.block<w.heap.size/\a.block≠mb
def QV.below{w w':World}{mb base:Nat}{m:List (ByteArray×LkV)}(h:QV w mb base m)(k:η w w'):QV w' mb base m:=
 ⟨h.map.below k,λq hq=>⟨(h.rows q hq).1.below k,(h.rows q hq).2.1,λa ha=>⟨((h.rows q hq).2.2 a ha).1,BQ ((h.rows q hq).2.2 a ha).2.1 k.size,((h.rows q hq).2.2 a ha).2.2⟩⟩⟩
def Alj{w:World}{x d p L:Nat}{s:St}{F:Nat->Prop}(h:Ix w x d p L s F){its:List It}(hits:Ahq s=some its)(lk:It->List Lk)(hlk:∀it∈its,Iq s it.v=some (lk it))(hkeys:its.Pairwise (λa b=>a.k≠b.k)):
 Calls prog 16 #[wV d p x] w λe w'=>∃mb m,e= .returned (.tuple #[.map (some mb),.bool true])/\QV w' mb w.heap.size m/\w.heap.size<=mb/\m.map (λq=>(q.1,q.2.l))=its.map (λit=>(it.k,lk it))/\η w w':=by
 obtain⟨W0,hW0,hb0,B0⟩:=EZ w 49 [Az d,Az p,Az x];have c2:=B0.cell 2;simp only [Am,AA]at c2;have UO:=Ahu (h.below hb0);rw [hits]at UO;have UO:=Aa UO;have HX0:=Aa (h.below hb0);have HB0:=Aa hb0;have HW0:=Aa hW0;have HC:Hid (∀W',Touch (λb=>W0.heap.size<=b) W0 W'->W'.cell? (Φ w.heap.size)=some (Az d)/\W'.cell? (Δ w.heap.size 1)=some (Az p)):=Aa (λW' k=>⟨(B0.touch k (Ω B0.lt)).cell 0,(B0.touch k (Ω B0.lt)).cell 1⟩);have hFl:=h.sys.lt;have htl:=h.sys.tabs.lt;have hsz0:W0.heap.size=w.heap.size+1:=by rw [hW0];simp
 have HL:=Aa (λW'(k:Touch (λb=>W0.heap.size<=b) W0 W')(first:UInt64)=>Tq (HX0.out.sys.keep k (λb hb hn=>Ω (hFl b hb)) O O) first);have HLk:=Aa hlk;have Atq:=Aa hkeys;have mm:=λW=>run_makeMap (P:=prog) 55 W
 clear h hb0 hW0 B0 hits hlk hkeys hFl htl;unfold wV;go_enter func16,ntmps16
 go_wp2_with fail
 rw [<-HW0.out]
 go_wp2_with fail
 refine UO.out.mono ?_;rintro e w1⟨hb1,A,c,rfl,hc,hr,hlen,hA⟩;obtain⟨w2,hw2⟩:∃w2,w2=w1.alloc (.map #[] 0):=⟨_,rfl⟩;have hb2:η w1 w2:=hw2▸(Below.refl _ _).alloc (Ad _) _;have hm2:Jj w2 w1.heap.size []:=hw2▸heap_alloc_new _ _;have HB2:=Aa (τ hb1 hb2);have HR1:=Aa hr;have dY:=Aa hb2;have Vx:Hid (QV w2 w1.heap.size w.heap.size []):=Aa ⟨hm2,λq hq=>nomatch hq⟩;have HW2:=Aa hw2;have Hmb:Hid (w.heap.size<=w1.heap.size):=Aa (Bc HB0.out.size hb1.size);obtain⟨mb,hmb⟩:∃mb,mb=w1.heap.size:=⟨_,rfl⟩;have Awf:Hid (W0.heap.size<=mb):=Aa (hmb▸hb1.size);have Ao7:Hid (w1.heap.size<=mb):=Aa (Nat.le_of_eq hmb.symm);rw [<-hmb]at Vx Hmb;clear UO hb1 hr hb2 hm2 hw2
 go_wp2_with fail
 rw [<-HW2.out]
 try rw [<-hmb]
 clear hmb
 go_wp2_with fail
 go_loopw [22](λi wr=>∃(k:Nat)(m:List (ByteArray×LkV)),k<=its.length/\i= .int .i64 (k:Nat)/\QV wr mb w.heap.size m/\m.map (λq=>(q.1,q.2.l))=(its.take k).map (λit=>(it.k,lk it))/\Touch (λb=>b=mb) w2 wr)(λi _=>its.length- (intOf i).toNat)
 case atStart=>exact⟨0,[],Nat.zero_le _,rfl,Vx.out,rfl,Touch.refl _ _⟩
 case round=>
  obtain⟨k,m,hk,rfl,hm,hmm,ht⟩:=hrel;have HM:=Aa hm;have HMm:=Aa hmm;have HT:=Aa ht;have HT0:Hid (Touch (λb=>W0.heap.size<=b) W0 wr):=Aa ((Touch.of_below HB2.out).trans (ht.mono (λb hb=>by subst hb;exact Awf.out)) (λ_ e=> .inl e));clear hm hmm ht Vx;by_cases hlt:k<its.length
  ·obtain⟨b,off,rfl,hbw,q1,q2⟩:=HR1.out.at k hlt;have hbn:b≠mb:=Ω Ao7.out
   have hq:∀i,wr.cell? (Δ b i)=w1.cell? (Δ b i):=λi=>World.cell?_of_block (w:=w1) ((HT.out.block b (BQ hbw dY.out.size) hbn).trans (dY.out.block b hbw))
   rw [<-hq]at q1 q2;obtain⟨hx1,hx2,hx5⟩:=Yg hlt;have hwk:=eX k O;have HNk:Hid (∀q∈QU m,q.1≠its[k].k):=Aa (λq hq e=>by
    obtain⟨r,hr,rfl⟩:=Ba.1 hq;have h1:(r.1,r.2.l)∈(its.take k).map (λit=>(it.k,lk it)):=HMm.out▸Ba.2 ⟨r,hr,rfl⟩;obtain⟨it,h2,h3⟩:=Ba.1 h1;obtain⟨j,hj,rfl⟩:=List.getElem_of_mem h2;have hjk:j<k:=by simp at hj;omega
    rw [List.getElem_take]at h3;have h4:=(List.pairwise_iff_getElem.1 Atq.out) j k O hlt hjk;injection h3 with h3 _
    exact h4 (h3.trans e))
   have HLi:=HLk.out its[k] (BI hlt);have UN:Hid ((its.take (k+1)).map (λit=>(it.k,lk it))=(its.take k).map (λit=>(it.k,lk it))++[(its[k].k,lk its[k])]):=Aa (by rw [List.take_succ_eq_append_getElem hlt,Dx];rfl);generalize lk its[k]=li at*;generalize its[k]=it at*;obtain⟨w3,hw3,hb3,B3⟩:=EZ wr 104 [.string it.k,.int .u64 (it.v.toNat:Int)];have ht3:Touch (λb=>W0.heap.size<=b) W0 w3:=HT0.out.trans (Touch.of_below hb3) (λ_ e=> .inl e);have hC3:=HC.out w3 ht3;have Amt:=Aa (HL.out w3 ht3 it.v);obtain⟨d0,d1⟩:=hC3;have HB3:=Aa hb3;have HM3:=Aa (HM.out.below hb3);have kC:=Aa B3;have HW3:=Aa hw3;rw [hw3]at d0 d1;clear hw3 hb3 ht3 B3 hq
   go_wp2_with fail
   rw [<-HW3.out];refine Amt.out.mono ?_;rintro e w4⟨hb4,WM⟩;rw [HLi]at WM;obtain⟨_,v4,rfl,Yl⟩:=WM;obtain⟨A4,c4,hv4,hc4,hr4⟩:=VA Yl;have hA4:∀a,A4=some a->w3.heap.size<=a.block/\a.block<w4.heap.size:=λa ea=>by
    rcases Yl.2 with⟨h1,_⟩| ⟨g,cap,cur,h1,h2,h3,_⟩
    ·rw [hv4,ea]at h1;cases h1
    ·rw [hv4,ea]at h1;injection h1 with h1
     injection h1 with h1
     rw [h1];exact⟨h2,(Array.getElem?_eq_some_iff.1 h3).1⟩
   subst hv4;have hm4:=HM3.out.below hb4;have B4:=kC.out.ξ hb4;have z0:=B4.p1;have um:=gV (P:=prog) underlying55 underlying9 w4 mb (QU m) it.k (.slice A4 li.length c4) hm4.map HNk.out;have HM4:=Aa hm4;have HB4:=Aa (τ HB3.out hb4);have HR4:=Aa hr4;have HA4:=Aa hA4;have HC4:=Aa hc4;have Awg:=hm4.map.lt;clear Amt hb4 Yl hr4 hA4 hm4 B4 hc4 q1 q2 d0 d1
   go_wp2_with fail
   have t5:Touch (λb=>b=mb) w4 (Ef w4 mb (PD 0 (QU m++[(it.k,Ac A4 li.length c4)])).toArray (QU m++[(it.k,Ac A4 li.length c4)]).length):=Iy _ _ _ _;have hsw:w.heap.size<=wr.heap.size:=Bc (Bc HB0.out.size HB2.out.size) HT.out.size;have Qw:QV (Ef w4 mb (PD 0 (QU m++[(it.k,Ac A4 li.length c4)])).toArray (QU m++[(it.k,Ac A4 li.length c4)]).length) mb w.heap.size (m++[(it.k,⟨A4,c4,li⟩)]):=by
    refine⟨by rw [Ali];exact L9 _ _ _ _ Awg,λq hq=> ?_⟩;have Axv:=HM.out.map.lt;rcases List.mem_append.1 hq with hq| hq
    ·obtain⟨g1,g2,g3⟩:=HM4.out.rows q hq;exact⟨Rd.touch g1 t5 (λa ha=>(g3 a ha).2.2),g2,λa ha=>⟨(g3 a ha).1,BQ (g3 a ha).2.1 t5.size,(g3 a ha).2.2⟩⟩
    ·rw [List.mem_singleton]at hq;subst hq;have hlt3:=kC.out.lt;exact⟨Rd.touch HR4.out t5 (λa ha=>by have:=HA4.out a ha;show a.block≠mb;omega),HC4.out,λa ha=>by
      have h1:=HA4.out a ha;have h2:=t5.size;exact⟨O,O,O⟩⟩
   have hle:(QU m++[(it.k,Ac A4 li.length c4)]).length=(QU m).length+1:=by simp
   rw [hle]at Qw t5;go_roundw
   case rel=>exact⟨k+1,m++[(it.k,⟨A4,c4,li⟩)],O,by go_num,Qw,by rw [Dx,HMm.out,UN.out];rfl,(HT.out.trans (Touch.of_below HB4.out) (λ_ e=> .inl e)).trans t5 (λ_ e=> .inl e)⟩
   case measure=>simp [intOf];omega
  ·obtain⟨hx2,hx5⟩:=mQ hlt;have hkn:its.take k=its:=List.take_of_length_le O;have HMn:Hid (m.map (λq=>(q.1,q.2.l))=its.map (λit=>(it.k,lk it))):=Aa (by rw [HMm.out,hkn]);have HBe:Hid (η w wr):=Aa ((τ HB0.out HB2.out).trans (HT.out.below (Bc HB0.out.size HB2.out.size) (λb hb=>by subst hb;exact Hmb.out)));clear hkn
   go_wp2_with fail
   go_ret2;exact⟨mb,m,rfl,HM.out,Hmb.out,HMn.out,HBe.out⟩
section
variable{len:Mode}{w:World}{x d p L:Nat}{s:St}{F:Nat->Prop}
end
section
variable{w:World}{x d p L:Nat}{s:St}{F:Nat->Prop}{items:List Kv}{ch:List UInt8->List Lk}
def UH(w:World)(x d p L:Nat)(s:St)(F:Nat->Prop)(items:List Kv)(ch:List UInt8->List Lk)(e:Ending)(w':World):Prop:=
 (e= .returned (.int .i64 6)/\∃(s':St)(F':Nat->Prop),Ce L s' items ch/\Np s s'/\Ix w' x d p L s' F'/\AP F F' w w')\/
 (e= .returned (.int .i64 0)/\∃(s':St)(F':Nat->Prop),(s'.ws 8).toNat=(s.ws 8).toNat+1/\s'.sh=s.sh/\(∀i,i<16->i≠8->i≠9->s'.ws i=s.ws i)/\(∃it c,Ce L s' it c/\∀k,∀y∈c k,y.rc.stamp.toNat<=(s.ws 8).toNat+1)/\Ix w' x d p L s' F'/\AP F F' w w')
def TB{w w1 w':World}{F F':Nat->Prop}{jb:Nat}{v:Value}(hb:η w w1)(hjb:w.heap.size<=jb)(m:AP (JG F jb (.slice none 0 0)) (JG F' jb v) w1 w'):AP F F' w w':=
 ⟨(Touch.of_below (F:=F) hb).trans m.touch (λb h=>by
   rcases h with h| h| h
   ·exact .inl h
   ·exact .inr O
   ·cases h),λb h=>by
   rcases m.own b (.inl h)with(h| h| h)| h
   ·exact .inl h
   ·exact .inr O
   ·cases h
   ·exact .inr (Bc hb.size h)⟩
def Ah8{l:List Wr}(hr:∀y∈l,Dz y=true)(hu:af l)(hl:l.length<=16){a b:UInt64}(h1:a.toNat<b.toNat)(h2:b.toNat<=60000):SI a b l=true:=by
 unfold SI;rw [decide_eq_true h1,decide_eq_true h2,iW hl (λj hj=>hr _ (BI hj)) (λj h _=>hu.lt O h (Nat.lt_succ_self j))];rfl
def lW{md:Mode}(h:Jd md w x d p L s F){v:Value}{l:List Wr}{G:Nat->Prop}(hset:I4 w G v l)(hr:∀y∈l,Dz y=true)(hu:af l)(hl:l.length<=16)(h8:(s.ws 8).toNat<60000)(J:Nat->Value->Nat->World->Prop)(Q:Int->World->Prop)
 (h0:∀jb vs w1,w.heap.size<=jb->η w w1->Fz md w1 w.heap.size jb x d p L s (s.ws 8+1) vs l [] false 0 F (.slice none 0 0)->J jb vs 0 w1)
 (hst:∀jb vs k wr,k<=l.length->J jb vs k wr->Calls prog 47 #[Az jb] wr λe w'=>(e= .returned (.tuple #[.bool false,.int .i64 0])/\k<l.length/\J jb vs (k+1) w')\/∃c:Int,e= .returned (.tuple #[.bool true,.int .i64 c])/\Q c w'):
 Calls prog 15 #[wV d p x,v] w λe w'=>∃c:Int,e= .returned (.int .i64 c)/\Q c w':=by
 obtain⟨W0,hW0,hb0,B0⟩:=EZ w 49 [Az d,Az p,Az x];obtain⟨y0,y1,y2⟩:=B0.p3;obtain⟨A,c,rfl⟩:=hset.slice;obtain⟨stamp,Xm⟩:∃stamp,stamp=s.ws 8+1:=⟨_,rfl⟩;have hsn:stamp.toNat=(s.ws 8).toNat+1:=by rw [Xm,Abm];simp;omega
 have hwk:IntKind.u64.wrap (((s.ws 8).toNat:Int)+1)=(stamp.toNat:Int):=by rw [hsn,IntKind.wrap_u64];omega
 have HN:Hid (SI (s.ws 8) stamp l=true):=Aa (Ah8 hr hu hl O O);have hsz:∀y∈l,y.key.size<=4294967296/\y.text.size<=4294967296:=λy hy=>by
  have:=hr y hy;unfold Dz at this;simp only [Bool.and_eq_true,decide_eq_true_eq]at this;omega
 have HWB:Hid (∀W',η W0 W'->W'.cell? (Φ w.heap.size)=some (Az d)/\W'.cell? (Δ w.heap.size 1)=some (Az p)/\W'.cell? (Δ w.heap.size 2)=some (Az x)):=Aa (λW' k=>⟨(B0.ξ k).cell 0,(B0.ξ k).cell 1,(B0.ξ k).cell 2⟩);have HSl:=Aa (λW'(k:η W0 W')=>Ao6 (x:=x) (((h.below hb0).below k).sys));have HNw:=Aa (λW'(k:η W0 W')=>lV (x:=x) (((h.below hb0).below k).sys) ((hset.below hb0).below k) O hsz stamp);have HB0:=Aa hb0;have HW0:=Aa hW0;have HX:=Aa h;have H0:Hid (∀jb vs w1,w.heap.size<=jb->η w w1->Fz md w1 w.heap.size jb x d p L s stamp vs l [] false 0 F (.slice none 0 0)->J jb vs 0 w1):=Aa (λjb vs w1=>by rw [Xm];exact h0 jb vs w1);have Awh:=Aa hst;have HSn:=Aa hsn;have hs0:stamp.toNat≠0:=O
 clear h hset hr hu hst h0 hsz hb0 hW0 B0 Xm h8 hsn;unfold wV at HSl⊢;go_enter func15,ntmps15
 go_wp2_with fail
 rw [<-HW0.out]
 try go_wp2_with fail
 refine wp_region_held_drew (S:=(λw'=>w'.cell? (Φ w.heap.size)=some (Az d)/\w'.cell? (Δ w.heap.size 1)=some (Az p)/\w'.cell? (Δ w.heap.size 2)=some (Az x))) Γ ⟨y0,y1,y2⟩ (λhHeld=> ?_);refine Eo 0 (Az w.heap.size) hHeld ?_;refine Eo 1 (Az d) hHeld (hy:=λw hSw=>by obtain⟨s0,s1,s2⟩:=hSw;go_simp) ?_;refine Eo 2 (.pointer (some (Δ w.heap.size 1))) hHeld ?_;refine Eo 3 (Az p) hHeld (hy:=λw hSw=>by obtain⟨s0,s1,s2⟩:=hSw;go_simp) ?_
 try simp only [Act.put,Ap,Ah,Ag,Ae,Aj,Aq]
 refine Eo 4 (.pointer (some (Δ w.heap.size 2))) hHeld ?_;refine Eo 5 (Az x) hHeld (hy:=λw hSw=>by obtain⟨s0,s1,s2⟩:=hSw;go_simp) ?_;refine Eo 6 (.agg #[Az d,Az p,Az x]) hHeld (hy:=λw hSw=>by obtain⟨s0,s1,s2⟩:=hSw;go_simp) ?_;refine Eo 9 (.slice A l.length c) hHeld ?_
 try simp only [Act.put,Ap,Ah,Ag,Ae,Aj,Aq]
 refine wpAnyH_ready (rs:=[7]) Γ Θ ?_;refine AllReadyH.cons rfl (λK hK=> ?_) AllReadyH.nil;go_simp;go_at_call 46;refine(HSl.out _ ((Dr.drew _).below _)).mono ?_;rintro e w10⟨rfl,WI⟩;have bF:η W0 w10:=((Dr.drew W0).below _).trans WI;refine hK.out _ _ (HWB.out _ bF) (λhHeld=> ?_);clear hK K
 try simp only [Act.put,Ap,Ah,Ag,Ae,Aj,Aq]
 refine Eo 8 (.int .u64 (stamp.toNat:Int)) hHeld ?_
 try simp only [Act.put,Ap,Ah,Ag,Ae,Aj,Aq]
 refine wpAnyH_ready (rs:=[10]) Γ Θ ?_;refine AllReadyH.cons rfl (λK hK=> ?_) AllReadyH.nil;go_simp;go_at_call 45;refine(HNw.out _ bF).mono ?_;rintro e w11⟨dZ,Atr,_⟩;have sS:η W0 w11:=τ bF dZ;obtain⟨jb,vs,rfl,hjb,hjB,hjS⟩:=Atr HN.out;refine hK.out _ _ (HWB.out _ sS) (λhHeld=> ?_);clear hK K
 try simp only [Act.put,Ap,Ah,Ag,Ae,Aj,Aq]
 refine Eo 11 (.tuple #[Az jb,.int .i64 0]) hHeld ?_;refine Eo 12 (Az jb) hHeld ?_;refine Eo 13 (.int .i64 0) hHeld ?_;refine Eo 14 (Az jb) hHeld ?_
 try simp only [Act.put,Ap,Ah,Ag,Ae,Aj,Aq]
 refine Eo 15 (.int .i64 0) hHeld ?_
 try simp only [Act.put,Ap,Ah,Ag,Ae,Aj,Aq]
 refine wpAnyH_done Γ ?_ _;have hlt:=HX.out.sys.lt;have htb:=HX.out.sys.tabs.lt;have hxl:=HX.out.box.lt;have hsz0:=HB0.out.size;have dU:w.heap.size<=jb:=Ψ sS.size bF.size
 have hC:Fz md w11 w.heap.size jb x d p L s stamp vs l [] false 0 F (.slice none 0 0):=⟨(HX.out.below HB0.out).below (sS.mono (Ad _)),hjB,World.ownsRow_nil _ _ _ _,hjS _ (λb h1 h2 h=>by
  rcases h with h| h| h
  ·have:=hlt b h;have:=bF.size;omega
  ·omega
  ·cases h),λh=>Ω (hlt jb h),dU,hxl,htb,(λh=>nomatch h),(λb h=>nomatch h)⟩
 have sU:Hid (η w w11):=Aa (τ HB0.out sS);have HJ0:=Aa (H0.out jb vs w11 dU sU.out hC);clear hlt htb hxl hsz0 hC sS bF WI dZ Atr hjB hjS hHeld y0 y1 y2 HSl HNw HWB hjb hwk H0
 go_wp2_with fail
 go_loopw [30](λi wr=>∃k:Nat,k<=l.length/\i= .int .i64 (k:Nat)/\J jb vs k wr)(λi _=>20- (intOf i).toNat)
 case atStart=>exact⟨0,Nat.zero_le _,rfl,HJ0.out⟩
 case round=>
  obtain⟨k,hk,rfl,hJk⟩:=hrel;have Ao8:=Aa (Awh.out jb vs k wr hk hJk);have hx1:(k:Int)<20:=O
  have hx2:decide ((k:Int)<20)=true:=decide_eq_true hx1;have hwk:=eX k O;clear hJk HJ0
  go_wp2_with fail
  refine Ao8.out.mono ?_;rintro e w5(⟨rfl,hkl,hJ5⟩| ⟨c,rfl,hQ5⟩)
  ·have H1:=Aa hJ5;clear hJ5 Ao8
   go_wp2_with fail
   go_roundw
   case rel=>exact⟨k+1,O,by go_num,H1.out⟩
   case measure=>simp [intOf];omega
  ·have H1:=Aa hQ5;clear hQ5 Ao8
   go_wp2_with fail
   go_ret;exact⟨c,rfl,H1.out⟩
def Ah9(h:Ix w x d p L s F)(hs:Ce L s items ch){v:Value}{l:List Wr}{G:Nat->Prop}(hset:I4 w G v l)(hr:∀y∈l,Dz y=true)(hu:af l)(hl:l.length<=16)(h8:(s.ws 8).toNat<60000)(hst:∀k,∀y∈ch k,y.rc.stamp.toNat<=(s.ws 8).toNat):
 Calls prog 15 #[wV d p x,v] w (UH w x d p L s F items ch):=by
 have hxl:=h.box.lt;obtain⟨stamp,Xm⟩:∃stamp,stamp=s.ws 8+1:=⟨_,rfl⟩;have hsn:stamp.toNat=(s.ws 8).toNat+1:=by rw [Xm,Abm];simp;omega
 refine(lW h hset hr hu hl h8 (λjb vs k wr=>∃(w1:World)(j:yQ)(F':Nat->Prop)(v':Value),w.heap.size<=jb/\η w w1/\iU L s items ch stamp l j/\QE l j.done/\k=j.done.length/\Adb wr w.heap.size jb x d p L j.s stamp vs l (j.done.map Prod.snd) false 0 F' v'/\AP (JG F jb (.slice none 0 0)) (JG F' jb v') w1 wr)
  (λc w'=>UH w x d p L s F items ch (.returned (.int .i64 c)) w') (λjb vs w1 h1 h2 h3=> ?_) (λjb vs k wr hk hJ=> ?_)).mono ?_
 ·rw [<-Xm]at h3;exact⟨w1,⟨s,[],false,0⟩,F,_,h1,h2,Adx hs stamp l (λk y hy=>Ω (hst k y hy)),λi h=>absurd h Θ,rfl,h3,AP.refl _ _⟩
 ·obtain⟨w1,j,F',v',dU,Ao9,hj,hkey,rfl,hCj,hM⟩:=hJ;refine(yX hCj hj hkey hr hu O O (λk y hy=>Ω (hst k y hy))).mono ?_;rintro e w5(⟨rfl,hnl,j',F5,v5,hj5,hk5,hd5,hC5,Ot⟩| ⟨rfl,s5,F5,hs5,hl5,hx5,Ot⟩| ⟨rfl,s5,F5,h8,hsh,hlo,hst5,hx5,Ot⟩)
  ·exact .inl ⟨rfl,hnl,w1,j',F5,v5,dU,Ao9,hj5,hk5,hd5.symm,hC5,hM.trans Ot⟩
  ·exact .inr ⟨6,rfl,.inl ⟨rfl,s5,F5,hs5,hl5,hx5,TB Ao9 dU (hM.trans Ot)⟩⟩
  ·refine .inr ⟨0,rfl,.inr ⟨rfl,s5,F5,by rw [h8];exact hsn,hsh,hlo,?_,hx5,TB Ao9 dU (hM.trans Ot)⟩⟩;obtain⟨it,c5,g1,g2⟩:=hst5;exact⟨it,c5,g1,λk y hy=>Ω (g2 k y hy)⟩
 ·rintro e w'⟨c,rfl,hc⟩;exact hc
end
