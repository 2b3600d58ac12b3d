import Derived.Test.YtdjfbnoolfpcnaaGreatDoorG13
import Derived.Test.YtdjfbnoolfpcnaaGreatDoorG18
namespace Go.Proofs.YtdjfbnoolfpcnaaGreatDoor
open Go.RowKit Go.Maps
theorem metE_key:∀(l:List (Int×Int))(i:Nat)(x:MapEntry),x∈metE i l→∃p∈l,x.key= .int .i64 p.1
 | [],i,x,hx=>by cases hx
 | p::t,i,x,hx=>by
   rcases List.mem_cons.1 hx with rfl| hx
   ·exact⟨p,List.mem_cons_self ..,rfl⟩
   ·obtain⟨q,hq,e⟩:=metE_key t _ x hx;exact⟨q,List.mem_cons_of_mem _ hq,e⟩
theorem stamped_metE:∀(n:Nat)(l:List (Int×Int)),l.length=n→(l.map (·.1)).Nodup→Go.MapKept.Stamped (metE 0 l).toArray l.length
 | 0,l,hl,_=>by
   have:l=[]:=List.eq_nil_of_length_eq_zero hl;subst this;exact Go.MapKept.stamped_empty 0
 | n+1,l,hl,h=>by
   rcases List.eq_nil_or_concat l with rfl| ⟨t,a,rfl⟩
   ·simp at hl
   ·rw [List.concat_eq_append]at hl h⊢;obtain⟨o,v⟩:=a;rw [List.map_append,List.nodup_append]at h;have h1:=stamped_metE n t (by simpa using hl) h.1;rw [metE_app,List.length_append];have h2:=Go.MapKept.stamped_push h1 (key:= .int .i64 o) (val:= .int .i64 v) (fun x hx e=>by
     obtain⟨p,hp,e2⟩:=metE_key t 0 x (by simpa using hx);rw [e2]at e;injection e with _ e
     exact h.2.2 p.1 (List.mem_map.2 ⟨p,hp,rfl⟩) o (by simp) e)
    simpa using h2
theorem wf64{x:Int}(h: -9223372036854775808≤x)(k:x≤9223372036854775807):(Lit.int .i64 x).wf=true:=by
 have h1:IntKind.i64.min= -9223372036854775808:=by decide
 have h2:IntKind.i64.max=9223372036854775807:=by decide
 simp only [Lit.wf,h1,h2,Bool.and_eq_true,decide_eq_true_eq];exact⟨h,k⟩
theorem MapIs.owns{w:World}{mb:Nat}{l:List (Int×Int)}(h:MapIs w mb l)(hn:(l.map (·.1)).Nodup)(hr:∀p∈l,(Lit.int .i64 p.1).wf=true∧(Lit.int .i64 p.2).wf=true)(hl:l.length≤maxLen):
 ∃D:DataW Unit,w.ownsMap Tryz.prog 3 (plainElem Tryz.prog 3) mb l.length D∧(intKeys D).Perm (l.map (·.1))∧Maps.size D=l.length:=by
 have hrd:∀(l:List (Int×Int))(i:Nat),(∀p∈l,(Lit.int .i64 p.1).wf=true∧(Lit.int .i64 p.2).wf=true)→∀x∈metE i l,∃p∈l,Go.WideElems.rd Tryz.prog 3 (plainElem (H:=Unit) Tryz.prog 3) x=some (.int .i64 p.1,.lit (.int .i64 p.2)):=by
  intro l;induction l with
  | nil=>intro i _ x hx;cases hx
  | cons p t ih=>
    intro i hr x hx;rcases List.mem_cons.1 hx with rfl| hx
    ·refine⟨p,List.mem_cons_self ..,?_⟩;obtain⟨h1,h2⟩:=hr p (List.mem_cons_self ..);exact Go.WideElems.rd_mk (keyOf_int_mk Tryz.underlying3 h1) (plainElem_int Tryz.underlying3 h2)
    ·obtain⟨q,hq,e⟩:=ih _ (fun p hp=>hr p (List.mem_cons_of_mem _ hp)) x hx;exact⟨q,List.mem_cons_of_mem _ hq,e⟩
 have hmap:∀(l:List (Int×Int))(i:Nat),(∀p∈l,(Lit.int .i64 p.1).wf=true∧(Lit.int .i64 p.2).wf=true)→(metE i l).map (Go.WideElems.rg Tryz.prog 3 (plainElem (H:=Unit) Tryz.prog 3))=l.map fun p=>(Lit.int .i64 p.1,DataW.lit (.int .i64 p.2)):=by
  intro l;induction l with
  | nil=>intro i _;rfl
  | cons p t ih=>
    intro i hr;obtain⟨h1,h2⟩:=hr p (List.mem_cons_self ..);simp only [metE,List.map_cons];rw [ih _ (fun p hp=>hr p (List.mem_cons_of_mem _ hp)),Go.WideElems.rg_of (Go.WideElems.rd_mk (keyOf_int_mk Tryz.underlying3 h1) (plainElem_int Tryz.underlying3 h2))]
 have hp:=Go.WideShapes.sorted_perm (l.map fun p=>((Lit.int .i64 p.1,DataW.lit (.int .i64 p.2)):Lit×DataW Unit));refine⟨_,⟨_,_,h,⟨by simp [metE_len];exact hl,stamped_metE _ l rfl hn,fun x hx=> ?_⟩,by simp [metE_len],rfl⟩,?_,?_⟩
 ·obtain⟨p,_,e⟩:=hrd l 0 hr x (by simpa using hx);exact⟨_,e⟩
 ·rw [show((metE 0 l).toArray.toList)=metE 0 l by simp,hmap l 0 hr];refine(hp.map (fun p=>Go.intOf p.1)).trans ?_;rw [List.map_map];exact List.Perm.of_eq rfl
 ·rw [show((metE 0 l).toArray.toList)=metE 0 l by simp,hmap l 0 hr];show(List.foldr DataW.insert [] _).length=_;rw [hp.length_eq,List.length_map]
theorem keys_any(mb:Nat)(w:World):Calls Tryz.prog 36 #[.map (some mb)] w fun e w'=>e= .returned (.func (.func 64) #[] #[.pointer (some ⟨w.heap.size,0,none⟩)])∧w'=w.alloc (.cells #[.map (some mb)] 57):=
 (callsIn_wide (n:=5)).1 (AnyZI.keys_in Tryz.keysA Fence.wide 5 trivial rfl (some mb) w)
theorem Tryz.sortsA(m:Nat):AnyZI.SortsIn Tryz.prog Tryz.sortedA_ren Fence.wide m:=
 ⟨fun blk off cap ss W hH hblk hsz=>callsIn_wide.2 (AnyM.slices_Sort_int Tryz.sortA blk off cap ss W hH hblk hsz),
  fun p cap W=>callsIn_wide.2 (AnyM.slices_Sort_int_none Tryz.sortA p cap W)⟩
theorem sorted_keys(bx mb:Nat)(w:World)(met:List Int)(hc:w.cell? ⟨bx,0,none⟩=some (.map (some mb)))(hm:MapIs w mb (met.map fun o=>(o,1)))(hn:met.Nodup)(hr:∀o∈met,0≤o∧o≤65536):
 Calls Tryz.prog 35 #[.func (.func 64) #[] #[.pointer (some ⟨bx,0,none⟩)]] w fun e w'=>∃v,e= .returned v∧
  w'.ownsRow w.heap.size 3 1 v met.length ((met.mergeSort (fun x y=>decide (x≤y))).map (Value.int .i64))∧Below w.heap.size w w':=by
 have hbx:=World.block_lt_of_cell? w _ hc;have hlen:met.length≤65537:=nodup_le 65537 met hn (fun o ho=>by have:=hr o ho;omega);obtain⟨D,hD,hpm,hsz⟩:=hm.owns (by rw [List.map_map];simpa [Function.comp_def]using hn) (fun p hp=>by
  obtain⟨o,ho,rfl⟩:=List.mem_map.1 hp;have:=hr o ho;exact⟨wf64 (by simp only;omega) (by simp only;omega),wf64 (by simp only;omega) (by simp only;omega)⟩) (by rw [List.length_map];unfold maxLen;omega)
 rw [List.map_map]at hpm;replace hpm:(intKeys D).Perm met:=by simpa [Function.comp_def]using hpm
 rw [List.length_map]at hsz;have hseq:=AnyZI.keys_gives (ρ:=Tryz.keysA_ren) {Tryz.keysA with} Fence.wide 2 trivial rfl (by omega) bx mb _ D w hbx hc hD;have cS:=AnyZI.sorted_in Tryz.sortedA Fence.wide 5 trivial trivial trivial trivial rfl (by omega) (Tryz.sortsA _) (enters_of Tryz.func63 (by kernel_rfl) rfl) 64 #[.pointer (some ⟨bx,0,none⟩)] trivial (enters_of Tryz.func64 (by kernel_rfl) rfl) _ _ (by rw [hsz];unfold maxLen;omega) (by rw [hsz];omega) _ hseq;refine((callsIn_wide (n:=5)).1 cS).mono ?_;rintro e w'⟨v,ss,rfl,hS,hrow,_,hb⟩;have hsm:ss.Perm met:=hS.trans hpm;rw [hsm.length_eq,mergeSort_of_perm_i hsm]at hrow;exact⟨v,rfl,hrow,hb⟩
def sortI(l:List Int):List Int:=l.mergeSort fun x y=>decide (x≤y)
section
variable{len:Mode}{w w':World}{x d p L:Nat}{s:St}{F:Nat→Prop}
def NodesPost(s:St)(w:World)(e:Ending)(w':World):Prop:=
 Below w.heap.size w w'∧match surveyP s with
  | none=>e= .returned (.tuple #[.slice none 0 0,.int .i64 5])
  | some (_,met)=>∃v,e= .returned (.tuple #[v,.int .i64 0])∧w'.ownsRow w.heap.size 3 1 v met.length ((sortI met).map (Value.int .i64))∧met.length≤65537
set_option maxHeartbeats 4000000 in
theorem nodes_index(h:IxL len w x d p L s F):Calls Tryz.prog 16 #[.pointer (some ⟨x,0,none⟩)] w (NodesPost s w):=by
 have HS:=Lib.hid (survey_index h);cases hv:surveyP s with
 | none=>
   have HV:=Lib.hid hv;clear h hv;go_enter Tryz.func16,Tryz.ntmps16
   go_wp2_with fail
   refine HS.out.mono ?_;rintro e w1⟨hb1,hp1⟩;rw [HV.out]at hp1;replace hp1:e= .returned (.tuple #[.pointer none,.int .i64 5]):=hp1;subst hp1;have HB:=Lib.hid hb1;clear hb1 HS
   go_wp2_with fail
   go_ret2;refine⟨HB.out,?_⟩;rw [HV.out];rfl
 | some im=>
   obtain⟨i2,m2⟩:=im;have HV:=Lib.hid hv;clear h hv;go_enter Tryz.func16,Tryz.ntmps16
   go_wp2_with fail
   refine HS.out.mono ?_;rintro e w1⟨hb1,hp1⟩;rw [HV.out]at hp1;obtain⟨sb,mb,v,rfl,hs1⟩:=hp1;have z2:=hs1.box.cell 2;simp only [List.getElem?_cons_succ,List.getElem?_cons_zero]at z2;have HB:=Lib.hid hb1;have HSv:=Lib.hid hs1;clear hb1 HS hs1
   go_wp2_with fail
   refine(keys_any mb w1).mono ?_;rintro e w2⟨rfl,hw2⟩;have hb12:Below w1.heap.size w1 w2:=hw2▸(Below.refl _ _).alloc (Nat.le_refl _) _;have hc2:w2.cell? ⟨w1.heap.size,0,none⟩=some (.map (some mb)):=by
    have B:Blk w2 w1.heap.size 57 [.map (some mb)]:=hw2▸heap_alloc_new _ _;exact B.cell 0
   have hSt:=HSv.out.below hb12;have HSo:=Lib.hid (sorted_keys w1.heap.size mb w2 m2 hc2 hSt.map hSt.nod hSt.rng);have HB2:=Lib.hid (HB.out.trans (hb12.mono HB.out.size));have HL:Hid (m2.length≤65537):=Lib.hid (nodup_le 65537 m2 hSt.nod (fun o ho=>by have:=hSt.rng o ho;omega));clear hw2 hb12 hc2 hSt z2
   go_wp2_with fail
   refine HSo.out.mono ?_;rintro e w3⟨v3,rfl,ho3,hb3⟩;have HB3:=Lib.hid (HB2.out.trans (hb3.mono HB2.out.size));have HO3:=Lib.hid (own_mono2 ho3 HB2.out.size);clear hb3 ho3 HSo
   go_wp2_with fail
   go_ret2;refine⟨HB3.out,?_⟩;rw [HV.out];exact⟨v3,rfl,HO3.out,HL.out⟩
def OpenPostL(len:Mode)(s:St)(w:World)(d p L:Nat)(F:Nat→Prop)(e:Ending)(w':World):Prop:=
 Below w.heap.size w w'∧match surveyP s with
  | none=>e= .returned (.tuple #[.pointer none,.int .i64 5])
  | some _=>∃x,e= .returned (.tuple #[.pointer (some ⟨x,0,none⟩),.int .i64 0])∧IxL len w' x d p L s F∧w.heap.size≤x
set_option maxHeartbeats 4000000 in
theorem open_index(h:SysL len w d p L s F):Calls Tryz.prog 21 #[.pointer (some ⟨d,0,none⟩),.pointer (some ⟨p,0,none⟩)] w (OpenPostL len s w d p L F):=by
 have hFl:=h.lt;obtain⟨w2,hw2⟩:∃w2,w2=w.alloc (.cells #[.pointer (some ⟨d,0,none⟩),.pointer (some ⟨p,0,none⟩)] 119):=⟨_,rfl⟩;have hb2:Below w.heap.size w w2:=hw2▸(Below.refl _ _).alloc (Nat.le_refl _) _;have hI:IxL len w2 w.heap.size d p L s F:=⟨h.below hb2,hw2▸heap_alloc_new _ _,fun hf=>by have:=hFl _ hf;omega⟩;have hsz:Calls Tryz.prog 31 #[.pointer (some ⟨d,0,none⟩)] w fun e w'=>e= .returned (.int .i64 (L*64:Nat))∧w=w':=by
  obtain⟨tb,hb,n,cT,cH,own,h,_⟩:=h;exact h.dev.size h.L1
 have hL0:0<L:=by obtain⟨tb,hb,n,cT,cH,own,h,_⟩:=h;exact h.L0
 have t0:(((L*64:Nat):Int)==0)=false:=by rw [beq_eq_false_iff_ne];omega
 generalize L*64=sz at hsz t0;have HSz:=Lib.hid hsz;have HN:=Lib.hid (nodes_index hI);have HI:=Lib.hid hI;have HB2:=Lib.hid hb2;have HW2:=Lib.hid hw2;clear h hsz hI hb2 hw2 hFl;go_enter Tryz.func21,Tryz.ntmps21
 go_wp2_with fail
 refine HSz.out.mono ?_;rintro e w1⟨rfl,rfl⟩;clear HSz
 go_wp2_with fail
 rw [←HW2.out];refine HN.out.mono ?_;rintro e w3⟨hb3,hp3⟩;have HB3:=Lib.hid (HB2.out.trans (hb3.mono HB2.out.size));have HI3:=Lib.hid (HI.out.below hb3);cases hv:surveyP s with
 | none=>
   rw [hv]at hp3;replace hp3:e= .returned (.tuple #[.slice none 0 0,.int .i64 5]):=hp3;subst hp3;have HV:=Lib.hid hv;clear hv hb3 HN
   go_wp2_with fail
   go_ret2;refine⟨HB3.out,?_⟩;rw [HV.out];rfl
 | some im=>
   obtain⟨i2,m2⟩:=im;rw [hv]at hp3;obtain⟨v3,rfl,ho3,_⟩:=hp3;obtain⟨A3,c3,rfl⟩:∃A c,v3= .slice A m2.length c:=by
    rcases ho3.2 with⟨h1,h2⟩| ⟨g,cap,cur,h1,_⟩
    ·exact⟨none,0,by rw [h1,h2]⟩
    ·exact⟨_,_,h1⟩
   have HV:=Lib.hid hv;clear hv hb3 HN ho3
   go_wp2_with fail
   go_ret2;refine⟨HB3.out,?_⟩;rw [HV.out];exact⟨_,rfl,HI3.out,Nat.le_refl _⟩
end
end Go.Proofs.YtdjfbnoolfpcnaaGreatDoor
