import Derived.Test.YtjcppneoncpdbaaGreatDoorG28
import Derived.Test.YtjcppneoncpdbaaGreatDoorG32
import Derived.Test.YtjcppneoncpdbaaGreatDoorG33
set_option maxHeartbeats 32000000
set_option maxRecDepth 100000
open Nat renaming le_trans->AL
open Go.Lib renaming hid->Aa
open List renaming getElem_toArray->Ap,getElem_cons_succ->Ak,getElem_cons_zero->Ah,setIfInBounds_toArray->Ag,set_cons_zero->Aj,set_cons_succ->Am
namespace Go.Proofs.YtjcppneoncpdbaaGreatDoor
open Go.RowKit
section
variable{w:World}{x d p L:Nat}{s:St}{F:Nat->Prop}{items:List Kv}{ch:List UInt8->List Lk}
def XO(w:World)(x d p L:Nat)(s:St)(F:Nat->Prop)(items:List Kv)(ch:List UInt8->List Lk)(e:Ending)(w':World):Prop:=
 (e= .returned (.int .i64 6)/\∃(s':St)(F':Nat->Prop),Cm L s' items ch/\OO s s'/\Ix w' x d p L s' F'/\Aq F F' w w')\/
 (e= .returned (.int .i64 0)/\∃(s':St)(F':Nat->Prop),(s'.ws 8).toNat=(s.ws 8).toNat+1/\s'.sh=s.sh/\(∀i,i<16->i≠8->i≠9->s'.ws i=s.ws i)/\(∃it c,Cm L s' it c/\∀k,∀y∈c k,y.rc.stamp.toNat<=(s.ws 8).toNat+1)/\Ix w' x d p L s' F'/\Aq F F' w w')
theorem Z8{w w1 w':World}{F F':Nat->Prop}{jb:Nat}{v:Value}(hb:Below w.heap.size w w1)(hjb:w.heap.size<=jb)(m:Aq (JG F jb (.slice none 0 0)) (JG F' jb v) w1 w'):Aq F F' w w':=
 ⟨(Touch.of_below (F:=F) hb).trans m.touch (fun b h=>by
   rcases h with h| h| h
   ·exact .inl h
   ·exact .inr (by omega)
   ·cases h),fun b h=>by
   rcases m.own b (.inl h)with(h| h| h)| h
   ·exact .inl h
   ·exact .inr (by omega)
   ·cases h
   ·exact .inr (AL hb.size h)⟩
theorem Aal{l:List Wr}(hr:∀y∈l,CX y=true)(hu:Yx l)(hl:l.length<=16){a b:UInt64}(h1:a.toNat<b.toNat)(h2:b.toNat<=60000):U1 a b l=true:=by
 unfold U1;rw [decide_eq_true h1,decide_eq_true h2,Z5 hl (fun j hj=>hr _ (List.getElem_mem hj)) (fun j h _=>hu.lt (by omega) h (Nat.lt_succ_self j))];rfl
theorem Aam(h:Ix w x d p L s F)(hs:Cm L s items ch){v:Value}{l:List Wr}{G:Nat->Prop}(hset:Hf w G v l)(hr:∀y∈l,CX y=true)(hu:Yx l)(hl:l.length<=16)(h8:(s.ws 8).toNat<60000)(hst:∀k,∀y∈ch k,y.rc.stamp.toNat<=(s.ws 8).toNat):
 Calls Tryz.prog 23 #[wV d p x,v] w (XO w x d p L s F items ch):=by
 obtain⟨W0,hW0⟩:∃W0,W0=w.alloc (.cells #[.pointer (some ⟨d,0,none⟩),.pointer (some ⟨p,0,none⟩),.pointer (some ⟨x,0,none⟩)] 31):=⟨_,rfl⟩;have hb0:Below w.heap.size w W0:=hW0▸(Below.refl _ _).alloc (Nat.le_refl _) _;have B0:BH W0 w.heap.size 31 [.pointer (some ⟨d,0,none⟩),.pointer (some ⟨p,0,none⟩),.pointer (some ⟨x,0,none⟩)]:=hW0▸heap_alloc_new _ _;have y0:=B0.cell 0;have y1:=B0.cell 1;have y2:=B0.cell 2;simp only [List.getElem?_cons_zero,List.getElem?_cons_succ]at y0 y1 y2;obtain⟨A,c,rfl⟩:=hset.slice;obtain⟨stamp,Aan⟩:∃stamp,stamp=s.ws 8+1:=⟨_,rfl⟩;have hsn:stamp.toNat=(s.ws 8).toNat+1:=by rw [Aan,UInt64.toNat_add];simp;omega
 have hwk:IntKind.u64.wrap (((s.ws 8).toNat:Int)+1)=(stamp.toNat:Int):=by rw [hsn,IntKind.wrap_u64];omega
 have HN:Hid (U1 (s.ws 8) stamp l=true):=Aa (Aal hr hu hl (by omega) (by omega));have hsz:∀y∈l,y.key.size<=4294967296/\y.text.size<=4294967296:=fun y hy=>by
  have:=hr y hy;unfold CX at this;simp only [Bool.and_eq_true,decide_eq_true_eq]at this;omega
 have HWB:Hid (∀W',Below W0.heap.size W0 W'->W'.cell? ⟨w.heap.size,0,none⟩=some (.pointer (some ⟨d,0,none⟩))/\W'.cell? ⟨w.heap.size,1,none⟩=some (.pointer (some ⟨p,0,none⟩))/\W'.cell? ⟨w.heap.size,2,none⟩=some (.pointer (some ⟨x,0,none⟩))):=Aa (fun W' k=>⟨(B0.below k B0.lt).cell 0,(B0.below k B0.lt).cell 1,(B0.below k B0.lt).cell 2⟩);have Pv:=Aa (fun W'(k:Below W0.heap.size W0 W')=>U2 (x:=x) (((h.below hb0).below k).sys));have HNw:=Aa (fun W'(k:Below W0.heap.size W0 W')=>OQ (x:=x) (((h.below hb0).below k).sys) ((hset.below hb0).below k) (by omega) hsz stamp);have HB0:=Aa hb0;have HW0:=Aa hW0;have HX:=Aa h;have HS:=Aa hs;have HR:=Aa hr;have HU:=Aa hu;have Qx:Hid (∀k,∀y∈ch k,y.rc.stamp.toNat<stamp.toNat):=Aa (fun k y hy=>by have:=hst k y hy;omega);have HSn:=Aa hsn;have hs0:stamp.toNat≠0:=by omega
 clear h hs hset hr hu hst hsz hb0 hW0 B0 Aan h8 hsn;unfold wV at Pv⊢;go_enter Tryz.func23,Tryz.ntmps23
 go_wp2_with fail
 rw [<-HW0.out]
 try go_wp2_with fail
 refine wp_region_held_drew (S:=(fun w'=>w'.cell? ⟨w.heap.size,0,none⟩=some (.pointer (some ⟨d,0,none⟩))/\w'.cell? ⟨w.heap.size,1,none⟩=some (.pointer (some ⟨p,0,none⟩))/\w'.cell? ⟨w.heap.size,2,none⟩=some (.pointer (some ⟨x,0,none⟩)))) (by kernel_rfl) ⟨y0,y1,y2⟩ (fun hHeld=> ?_);refine Ew 0 (.pointer (some ⟨w.heap.size,0,none⟩)) rfl (by kernel_rfl) (fun _ _ _ h=>h) (by rfl) (fun w hSw=>by clear hSw;go_simp) hHeld ?_;refine Ew 1 (.pointer (some ⟨d,0,none⟩)) rfl (by kernel_rfl) (fun _ _ _ h=>h) (by rfl) (fun w hSw=>by obtain⟨s0,s1,s2⟩:=hSw;go_simp) hHeld ?_;refine Ew 2 (.pointer (some ⟨w.heap.size,1,none⟩)) rfl (by kernel_rfl) (fun _ _ _ h=>h) (by rfl) (fun w hSw=>by clear hSw;go_simp) hHeld ?_;refine Ew 3 (.pointer (some ⟨p,0,none⟩)) rfl (by kernel_rfl) (fun _ _ _ h=>h) (by rfl) (fun w hSw=>by obtain⟨s0,s1,s2⟩:=hSw;go_simp) hHeld ?_
 try simp only [Act.put,Ap,Ak,Ah,Ag,Aj,Am]
 refine Ew 4 (.pointer (some ⟨w.heap.size,2,none⟩)) rfl (by kernel_rfl) (fun _ _ _ h=>h) (by rfl) (fun w hSw=>by clear hSw;go_simp) hHeld ?_;refine Ew 5 (.pointer (some ⟨x,0,none⟩)) rfl (by kernel_rfl) (fun _ _ _ h=>h) (by rfl) (fun w hSw=>by obtain⟨s0,s1,s2⟩:=hSw;go_simp) hHeld ?_;refine Ew 6 (.agg #[.pointer (some ⟨d,0,none⟩),.pointer (some ⟨p,0,none⟩),.pointer (some ⟨x,0,none⟩)]) rfl (by kernel_rfl) (fun _ _ _ h=>h) (by rfl) (fun w hSw=>by obtain⟨s0,s1,s2⟩:=hSw;go_simp) hHeld ?_;refine Ew 9 (.slice A l.length c) rfl (by kernel_rfl) (fun _ _ _ h=>h) (by rfl) (fun w hSw=>by clear hSw;go_simp) hHeld ?_
 try simp only [Act.put,Ap,Ak,Ah,Ag,Aj,Am]
 refine wpAnyH_ready (rs:=[7]) (by kernel_rfl) (by simp) ?_;refine AllReadyH.cons rfl (fun K hK=> ?_) AllReadyH.nil;go_simp;go_at_call 21;refine(Pv.out _ ((Dr.drew _).below _)).mono ?_;rintro e w10⟨rfl,MI⟩;have XP:Below W0.heap.size W0 w10:=((Dr.drew W0).below _).trans MI;refine hK.out _ _ (HWB.out _ XP) (fun hHeld=> ?_);clear hK K
 try simp only [Act.put,Ap,Ak,Ah,Ag,Aj,Am]
 refine Ew 8 (.int .u64 (stamp.toNat:Int)) rfl (by kernel_rfl) (fun _ _ _ h=>h) (by rfl) (fun w hSw=>by clear hSw;go_simp) hHeld ?_
 try simp only [Act.put,Ap,Ak,Ah,Ag,Aj,Am]
 refine wpAnyH_ready (rs:=[10]) (by kernel_rfl) (by simp) ?_;refine AllReadyH.cons rfl (fun K hK=> ?_) AllReadyH.nil;go_simp;go_at_call 15;refine(HNw.out _ XP).mono ?_;rintro e dG⟨V3,Ajw,_⟩;have jG:Below W0.heap.size W0 dG:=XP.trans (V3.mono XP.size);obtain⟨jb,vs,rfl,hjb,hjB,hjS⟩:=Ajw HN.out;refine hK.out _ _ (HWB.out _ jG) (fun hHeld=> ?_);clear hK K
 try simp only [Act.put,Ap,Ak,Ah,Ag,Aj,Am]
 refine Ew 11 (.tuple #[.pointer (some ⟨jb,0,none⟩),.int .i64 0]) rfl (by kernel_rfl) (fun _ _ _ h=>h) (by rfl) (fun w hSw=>by clear hSw;go_simp) hHeld ?_;refine Ew 12 (.pointer (some ⟨jb,0,none⟩)) rfl (by kernel_rfl) (fun _ _ _ h=>h) (by rfl) (fun w hSw=>by clear hSw;go_simp) hHeld ?_;refine Ew 13 (.int .i64 0) rfl (by kernel_rfl) (fun _ _ _ h=>h) (by rfl) (fun w hSw=>by clear hSw;go_simp) hHeld ?_;refine Ew 14 (.pointer (some ⟨jb,0,none⟩)) rfl (by kernel_rfl) (fun _ _ _ h=>h) (by rfl) (fun w hSw=>by clear hSw;go_simp) hHeld ?_
 try simp only [Act.put,Ap,Ak,Ah,Ag,Aj,Am]
 refine Ew 15 (.int .i64 0) rfl (by kernel_rfl) (fun _ _ _ h=>h) (by rfl) (fun w hSw=>by clear hSw;go_simp) hHeld ?_
 try simp only [Act.put,Ap,Ak,Ah,Ag,Aj,Am]
 refine wpAnyH_done (by kernel_rfl) ?_ _;have hlt:=HX.out.sys.lt;have htb:=HX.out.sys.tabs.lt;have hxl:=HX.out.box.lt;have hsz0:=HB0.out.size;have uK:w.heap.size<=jb:=by have:=jG.size;have:=XP.size;omega
 have hC:Gv dG w.heap.size jb x d p L s stamp vs l [] false 0 F (.slice none 0 0):=⟨(HX.out.below HB0.out).below (jG.mono (Nat.le_refl _)),hjB,World.ownsRow_nil _ _ _ _,hjS _ (fun b h1 h2 h=>by
  rcases h with h| h| h
  ·have:=hlt b h;have:=XP.size;omega
  ·omega
  ·cases h),fun h=>by have:=hlt jb h;omega,uK,hxl,htb,(fun h=>nomatch h),(fun b h=>nomatch h)⟩
 have Y8:Hid (Below w.heap.size w dG):=Aa (HB0.out.trans (jG.mono HB0.out.size));have HC:=Aa hC;clear hlt htb hxl hsz0 hC jG XP MI V3 Ajw hjB hjS hHeld y0 y1 y2 Pv HNw HWB hjb hwk
 go_wp2_with fail
 go_loopw [30](fun i wr=>∃(j:oD)(F':Nat->Prop)(v':Value),Zy L s items ch stamp l j/\OT l j.done/\i= .int .i64 (j.done.length:Nat)/\Gv wr w.heap.size jb x d p L j.s stamp vs l (j.done.map Prod.snd) false 0 F' v'/\Aq (JG F jb (.slice none 0 0)) (JG F' jb v') dG wr)(fun i _=>20- (intOf i).toNat)
 case atStart=>exact⟨⟨s,[],false,0⟩,F,_,vG HS.out stamp l Qx.out,fun i h=>absurd h (by simp),rfl,HC.out,Aq.refl _ _⟩
 case round=>
  obtain⟨j,F',v',hj,hk,rfl,hCj,hM⟩:=hrel;have hkl:j.done.length<=16:=AL hj.len hl;have jE:=Aa (oI hCj hj hk HR.out HU.out (by omega) hs0 Qx.out);have hx1:(j.done.length:Int)<20:=by omega
  have hx2:decide ((j.done.length:Int)<20)=true:=decide_eq_true hx1;have hwk:IntKind.i64.wrap ((j.done.length:Int)+1)=(j.done.length:Int)+1:=IntWalk.i64_in _ (by omega);have HM:=Aa hM;clear hj hk hCj hM;unfold jB at jE
  go_wp2_with fail
  refine jE.out.mono ?_;rintro e w5(⟨rfl,hnl,j',F5,v5,uJ,hk5,hd5,hC5,Hz⟩| ⟨rfl,s5,F5,hs5,hl5,hx5,Hz⟩| ⟨rfl,s5,F5,h8,hsh,hlo,hst5,hx5,Hz⟩)
  ·have H1:=Aa uJ;have H2:=Aa hk5;have H3:=Aa hd5;have H4:=Aa hC5;have H5:=Aa Hz;clear uJ hk5 hd5 hC5 Hz jE
   go_wp2_with fail
   go_roundw
   case rel=>exact⟨j',F5,v5,H1.out,H2.out,by rw [H3.out];go_num,H4.out,HM.out.trans H5.out⟩
   case measure=>simp [intOf];omega
  ·have H1:=Aa hs5;have H2:=Aa hl5;have H3:=Aa hx5;have H5:=Aa (Z8 Y8.out uK (HM.out.trans Hz));clear hs5 hl5 hx5 Hz jE
   go_wp2_with fail
   go_ret;exact .inl ⟨rfl,s5,F5,H1.out,H2.out,H3.out,H5.out⟩
  ·have H1:=Aa h8;have H2:=Aa hsh;have H3:=Aa hx5;have H4:=Aa hlo;have H6:=Aa hst5;have H5:=Aa (Z8 Y8.out uK (HM.out.trans Hz));clear h8 hsh hlo hst5 hx5 Hz jE
   go_wp2_with fail
   go_ret;refine .inr ⟨rfl,s5,F5,by rw [H1.out];exact HSn.out,H2.out,H4.out,?_,H3.out,H5.out⟩;obtain⟨it,c5,g1,g2⟩:=H6.out;exact⟨it,c5,g1,fun k y hy=>by have:=g2 k y hy;have:=HSn.out;omega⟩
end
end Go.Proofs.YtjcppneoncpdbaaGreatDoor
