import Derived.Laws.OwnMore
import Derived.Test.YtjcppneoncpdbaaGreatDoorG13
set_option maxHeartbeats 32000000
set_option maxRecDepth 100000
open Nat renaming le_trans->Bf,le_refl->Ae
open List renaming take_append_drop->Gt,nil_append->Et,getElem?_cons_zero->Ad,getElem?_cons_succ->Af
open Go.Lib renaming hid->Aa
open Go.Value renaming ownBlock->AX
namespace Go.Proofs.YtjcppneoncpdbaaGreatDoor
open Go.RowKit
theorem Vq{w:World}{base base' k n:Nat}{e:TypeId}{v:Value}{xs:List Value}(h:w.ownsRow base e k v n xs)(hb:base'<=base):w.ownsRow base' e k v n xs:=
 ⟨h.1,h.2.imp id fun⟨g,cap,cur,a,b,c⟩=>⟨g,cap,cur,a,Bf hb b,c⟩⟩
theorem lJ:∀(s:List Wr)(k:Nat)(x:Wr),k<s.length->(((Fb s).set (k*3) (.string x.key)).set (k*3+1) (.string x.text)).set (k*3+2) (.bool x.gone)=Fb (s.set k x)
 | y::t,0,x,_=>by simp [Fb,wrC]
 | y::t,k+1,x,h=>by
   have ih:=lJ t k x (by simpa using h);have e:Fb (y::t)= .string y.key:: .string y.text:: .bool y.gone::Fb t:=by simp [Fb,wrC]
   have e2:Fb ((y::t).set (k+1) x)= .string y.key:: .string y.text:: .bool y.gone::Fb (t.set k x):=by simp [Fb,wrC]
   rw [e,e2,show(k+1)*3=k*3+1+1+1 by omega];simp only [List.set_cons_succ];rw [ih]
theorem yO(s:List Wr)(k:Nat)(hk:k<=s.length):(Fb s).take (k*3)=Fb (s.take k):=by
 have h:=Yb (s.take k) (s.drop k);rw [Gt]at h;rw [h,List.take_append_of_le_length (by rw [LH];simp;omega),List.take_of_length_le (by rw [LH];simp;omega)]
theorem yP(s:List Wr)(k:Nat)(hk:k<=s.length):(Fb s).drop (k*3)=Fb (s.drop k):=by
 have h:=Yb (s.take k) (s.drop k);rw [Gt]at h;have hl:(Fb (s.take k)).length=k*3:=by rw [LH];simp;omega
 rw [h,List.drop_append_of_le_length (by omega),<-hl,List.drop_length,Et]
section
variable{w:World}{G:Nat->Prop}{v:Value}{s:List Wr}
theorem lK(h:H9 w G v s)(hs:s.length<=16)(x:Wr)(hk:x.key.size<=4294967296)(ht:x.text.size<=4294967296)(hx:Dk x=false):
 Calls Tryz.prog 51 #[v,NV x] w fun e w'=>∃u,e= .returned (.tuple #[u,.int .i64 (J8 s x).2])/\w'.ownsRow w.heap.size 87 3 u (J8 s x).1.length (Fb (J8 s x).1)/\Below w.heap.size w w':=by
 obtain⟨W,hW⟩:∃W,W=w.alloc (.cells #[.string x.key,.string x.text,.bool x.gone] 87):=⟨_,rfl⟩;have B:BI W w.heap.size 87 [.string x.key,.string x.text,.bool x.gone]:=hW▸heap_alloc_new _ _;have hb:Below w.heap.size w W:=hW▸(Below.refl _ _).alloc (Ae _) _;have HR:=Aa (fun W=>OC x W hk ht);rw [hx]at HR;have SL:=Aa (fun W(k:Below w.heap.size w W)=>OD (h.below k) (by omega));obtain⟨A,c,rfl,hc,hro⟩:=h;have zA:=Aa hro.1;have HB:=Aa B;have Hb:=Aa hb;have HW:=Aa hW;have y0:=B.cell 0;have y1:=B.cell 1;have y2:=B.cell 2;simp only [Ad,Af]at y0 y1 y2;rw [hW]at y0 y1 y2;unfold NV at HR⊢;have HP:Hid (J8 s x=(s,2)):=Aa (by unfold J8;rw [if_pos hx]);clear hx B hb hW hro;go_enter Tryz.func51,Tryz.ntmps51
 go_wp2_with fail
 rw [<-HW.out];refine(HR.out _).mono ?_;rintro e w1⟨rfl,hb1⟩;have Hb1:=Aa (Hb.out.trans (hb1.mono Hb.out.size));clear HR hb1 HB Hb y0 y1 y2
 go_wp2_with fail
 refine(SL.out _ Hb1.out).mono ?_;rintro e w2⟨u,rfl,hO,hb2⟩;have HO:=Aa (Vq hO Hb1.out.size);have Hb2:=Aa (Hb1.out.trans (hb2.mono Hb1.out.size));clear hO hb2
 go_wp2_with fail
 go_ret2;exact⟨u,by rw [HP.out];rfl,by rw [HP.out];exact HO.out,Hb2.out⟩
theorem gp(h:H9 w G v s)(hs:s.length<=16)(x:Wr)(hk:x.key.size<=4294967296)(ht:x.text.size<=4294967296)(hx:Dk x=true)(hu:XW s)(hn:gQ s x.key=false)(hl:16<=s.length):
 Calls Tryz.prog 51 #[v,NV x] w fun e w'=>∃u,e= .returned (.tuple #[u,.int .i64 (J8 s x).2])/\w'.ownsRow w.heap.size 87 3 u (J8 s x).1.length (Fb (J8 s x).1)/\Below w.heap.size w w':=by
 obtain⟨W,hW⟩:∃W,W=w.alloc (.cells #[.string x.key,.string x.text,.bool x.gone] 87):=⟨_,rfl⟩;have B:BI W w.heap.size 87 [.string x.key,.string x.text,.bool x.gone]:=hW▸heap_alloc_new _ _;have hb:Below w.heap.size w W:=hW▸(Below.refl _ _).alloc (Ae _) _;have HR:=Aa (fun W=>OC x W hk ht);rw [hx]at HR;have SL:=Aa (fun W(k:Below w.heap.size w W)=>OD (h.below k) (by omega));obtain⟨A,c,rfl,hc,hro⟩:=h;have zA:=Aa hro.1;have HB:=Aa B;have Hb:=Aa hb;have HW:=Aa hW;have y0:=B.cell 0;have y1:=B.cell 1;have y2:=B.cell 2;simp only [Ad,Af]at y0 y1 y2;rw [hW]at y0 y1 y2;unfold NV at HR⊢;have HP:Hid (J8 s x=(s,3)):=Aa (by unfold J8;rw [if_neg (by rw [hx];decide),if_neg (by rw [hn];decide),if_pos hl]);have HF:=Aa (fun W(k:Below w.heap.size w W)=>Ye (c:=c) x.key (by omega) (Rd.below zA.out k) hu);rw [hn]at HF;obtain⟨fi,hfi⟩:∃fi,Gq s x.key=fi:=⟨_,rfl⟩;rw [hfi]at HF;have t1:decide ((16:Int)<=(s.length:Int))=true:=decide_eq_true (by omega);clear hx hn hu hfi hl B hb hW hro;go_enter Tryz.func51,Tryz.ntmps51
 go_wp2_with fail
 rw [<-HW.out];refine(HR.out _).mono ?_;rintro e w1⟨rfl,hb1⟩;have B1:=HB.out.below hb1 HB.out.lt;have Hb1:=Aa (Hb.out.trans (hb1.mono Hb.out.size));replace y0:=B1.cell 0;replace y1:=B1.cell 1;replace y2:=B1.cell 2;simp only [Ad,Af]at y0 y1 y2;have HB1:=Aa B1;clear HR hb1 B1 HB Hb
 go_wp2_with fail
 refine(HF.out _ Hb1.out).mono ?_;rintro e w2⟨rfl,hb2⟩;have Hb2:=Aa (Hb1.out.trans (hb2.mono Hb1.out.size));have HB2:=Aa (HB1.out.below hb2 HB1.out.lt);replace y0:=HB2.out.cell 0;replace y1:=HB2.out.cell 1;replace y2:=HB2.out.cell 2;simp only [Ad,Af]at y0 y1 y2;clear HF hb2 HB1 Hb1
 go_wp2_with fail
 refine(SL.out _ Hb2.out).mono ?_;rintro e w3⟨u,rfl,hO,hb3⟩;have HO:=Aa (Vq hO Hb2.out.size);have Hb3:=Aa (Hb2.out.trans (hb3.mono Hb2.out.size));clear hO hb3
 go_wp2_with fail
 go_ret2;exact⟨u,by rw [HP.out];rfl,by rw [HP.out];exact HO.out,Hb3.out⟩
theorem lL(h:H9 w G v s)(hs:s.length<=16)(x:Wr)(hk:x.key.size<=4294967296)(ht:x.text.size<=4294967296)(hx:Dk x=true)(hu:XW s)(hn:gQ s x.key=true):
 Calls Tryz.prog 51 #[v,NV x] w fun e w'=>∃u,e= .returned (.tuple #[u,.int .i64 (J8 s x).2])/\w'.ownsRow w.heap.size 87 3 u (J8 s x).1.length (Fb (J8 s x).1)/\Below w.heap.size w w':=by
 obtain⟨W,hW⟩:∃W,W=w.alloc (.cells #[.string x.key,.string x.text,.bool x.gone] 87):=⟨_,rfl⟩;have B:BI W w.heap.size 87 [.string x.key,.string x.text,.bool x.gone]:=hW▸heap_alloc_new _ _;have hb:Below w.heap.size w W:=hW▸(Below.refl _ _).alloc (Ae _) _;have HR:=Aa (fun W=>OC x W hk ht);rw [hx]at HR;have SL:=Aa (fun W(k:Below w.heap.size w W)=>OD (h.below k) (by omega));obtain⟨A,c,rfl,hc,hro⟩:=h;have zA:=Aa hro.1;have HB:=Aa B;have Hb:=Aa hb;have HW:=Aa hW;have y0:=B.cell 0;have y1:=B.cell 1;have y2:=B.cell 2;simp only [Ad,Af]at y0 y1 y2;rw [hW]at y0 y1 y2;unfold NV at HR⊢;have HP:Hid (J8 s x=(s.set (Gq s x.key) x,0)):=Aa (by unfold J8;rw [if_neg (by rw [hx];decide),if_pos hn]);have HF:=Aa (fun W(k:Below w.heap.size w W)=>Ye (c:=c) x.key (by omega) (Rd.below zA.out k) hu);rw [hn]at HF;have hfl:=Aba hn;obtain⟨fi,hfi⟩:∃fi,Gq s x.key=fi:=⟨_,rfl⟩;rw [hfi]at HF HP hfl;have t1:decide ((fi:Int)<(s.length:Int))=true:=decide_eq_true (by omega);have t2:decide (fi<s.length)=true:=decide_eq_true hfl;clear hx hn hu hfi B hb hW hro;go_enter Tryz.func51,Tryz.ntmps51
 go_wp2_with fail
 rw [<-HW.out];refine(HR.out _).mono ?_;rintro e w1⟨rfl,hb1⟩;have B1:=HB.out.below hb1 HB.out.lt;have Hb1:=Aa (Hb.out.trans (hb1.mono Hb.out.size));replace y0:=B1.cell 0;replace y1:=B1.cell 1;replace y2:=B1.cell 2;simp only [Ad,Af]at y0 y1 y2;have HB1:=Aa B1;clear HR hb1 B1 HB Hb
 go_wp2_with fail
 refine(HF.out _ Hb1.out).mono ?_;rintro e w2⟨rfl,hb2⟩;have Hb2:=Aa (Hb1.out.trans (hb2.mono Hb1.out.size));have HB2:=Aa (HB1.out.below hb2 HB1.out.lt);replace y0:=HB2.out.cell 0;replace y1:=HB2.out.cell 1;replace y2:=HB2.out.cell 2;simp only [Ad,Af]at y0 y1 y2;clear HF hb2 HB1 Hb1
 go_wp2_with fail
 refine(SL.out _ Hb2.out).mono ?_;rintro e w3⟨u,rfl,hO,hb3⟩;obtain⟨b5,c5,rfl,hb5⟩:∃b5 c5,u= .slice (some ⟨b5,0,none⟩) s.length c5/\w2.heap.size<=b5:=by
  rcases hO.2 with⟨_,e2⟩| ⟨g,cap,cur,e1,e2,_⟩
  ·omega
  ·exact⟨g,cap,e1,e2⟩
 have HO:=Aa (Vq hO Hb2.out.size);have Hb3:=Aa (Hb2.out.trans (hb3.mono Hb2.out.size));have HB3:=Aa (HB2.out.below hb3 HB2.out.lt);have fz:=HO.out.frozenAt;have Hlt:Hid (w.heap.size<w2.heap.size):=Aa HB2.out.lt;replace y0:=HB3.out.cell 0;replace y1:=HB3.out.cell 1;replace y2:=HB3.out.cell 2;simp only [Ad,Af]at y0 y1 y2;have hz:w3.cell? ⟨b5,fi*3,none⟩=some (.string s[fi].key)/\w3.cell? ⟨b5,fi*3+1,none⟩=some (.string s[fi].text)/\w3.cell? ⟨b5,fi*3+2,none⟩=some (.bool s[fi].gone):=by
  obtain⟨A9,c9,e9,_,r9⟩:=Ea HO.out;obtain⟨b8,o8,e8,_,z⟩:=jJ r9 fi hfl;subst e8;simp only [Value.slice.injEq,Option.some.injEq,Addr.mk.injEq]at e9;obtain⟨⟨e1,e2,_⟩,_⟩:=e9;subst e1 e2;simpa using z
 obtain⟨z0,z1,z2⟩:=hz;generalize s[fi].key=k9,s[fi].text=k8,s[fi].gone=k7 at z0 z1 z2;clear hO hb3 SL;have Aij:w.heap.size<=b5:=Bf Hb2.out.size hb5;have Ha:=Aa hfl
 go_wp2_with fail
 have s3:=(((HO.out.stored (fi*3) (.string x.key)).1.stored (fi*3+1) (.string x.text)).1.stored (fi*3+2) (.bool x.gone)).1;have k3:=((Hb3.out.setCell (p:=⟨b5,fi*3,none⟩) Aij (.string x.key)).setCell (p:=⟨b5,fi*3+1,none⟩) Aij (.string x.text)).setCell (p:=⟨b5,fi*3+2,none⟩) Aij (.bool x.gone);rw [lJ s fi x Ha.out]at s3;go_ret2;exact⟨_,by rw [HP.out];rfl,by rw [HP.out];simpa using s3,k3⟩
theorem lM(h:H9 w G v s)(hs:s.length<=16)(x:Wr)(hk:x.key.size<=4294967296)(ht:x.text.size<=4294967296)(hx:Dk x=true)(hu:XW s)(hn:gQ s x.key=false)(hl:s.length<16):
 Calls Tryz.prog 51 #[v,NV x] w fun e w'=>∃u,e= .returned (.tuple #[u,.int .i64 (J8 s x).2])/\w'.ownsRow w.heap.size 87 3 u (J8 s x).1.length (Fb (J8 s x).1)/\Below w.heap.size w w':=by
 obtain⟨W,hW⟩:∃W,W=w.alloc (.cells #[.string x.key,.string x.text,.bool x.gone] 87):=⟨_,rfl⟩;have B:BI W w.heap.size 87 [.string x.key,.string x.text,.bool x.gone]:=hW▸heap_alloc_new _ _;have hb:Below w.heap.size w W:=hW▸(Below.refl _ _).alloc (Ae _) _;have HR:=Aa (fun W=>OC x W hk ht);rw [hx]at HR;have SL:=Aa (fun W(k:Below w.heap.size w W)=>OD (h.below k) (by omega));obtain⟨A,c,rfl,hc,hro⟩:=h;have zA:=Aa hro.1;have HB:=Aa B;have Hb:=Aa hb;have HW:=Aa hW;have y0:=B.cell 0;have y1:=B.cell 1;have y2:=B.cell 2;simp only [Ad,Af]at y0 y1 y2;rw [hW]at y0 y1 y2;unfold NV at HR⊢;have HP:Hid (J8 s x=(s.take (Gq s x.key)++x::s.drop (Gq s x.key),0)):=Aa (by unfold J8;rw [if_neg (by rw [hx];decide),if_neg (by rw [hn];decide),if_neg (by omega)]);have HF:=Aa (fun W(k:Below w.heap.size w W)=>Ye (c:=c) x.key (by omega) (Rd.below zA.out k) hu);rw [hn]at HF;have hfl:=XX s x.key;obtain⟨fi,hfi⟩:∃fi,Gq s x.key=fi:=⟨_,rfl⟩;rw [hfi]at HF HP hfl;have t1:decide ((16:Int)<=(s.length:Int))=false:=decide_eq_false (by omega);clear hx hn hu hfi B hb hW hro;have hmk:∀W:World,(Instr.makeSlice 45 (.int .i64 0) (.int .i64 ((s.length:Int)+1))).run Tryz.prog W= .ok (.slice (some ⟨W.heap.size,0,none⟩) 0 (s.length+1)) (W.alloc (.cells (madeCells (Value.agg #[.string ⟨#[]⟩,.string ⟨#[]⟩,.bool false]).cells ((s.length+1)*3)) 87)):=fun W=>by
  obtain⟨i0,hi,hz0,hz1,hz2⟩:=info_parts Tryz.jH.hi;have:=run_make (P:=Tryz.prog) (w:=W) 45 87 i0 _ Tryz.underlying45 hi hz0 .i64 .i64 0 ((s.length:Int)+1) (by omega) (by omega) (by rw [hz2];omega) (by omega);rw [hz1]at this;simpa [show((s.length:Int)+1).toNat=s.length+1 by omega]using this
 obtain⟨zc,hz⟩:∃zc,madeCells (Value.agg #[.string ⟨#[]⟩,.string ⟨#[]⟩,.bool false]).cells ((s.length+1)*3)=zc:=⟨_,rfl⟩;have hzs:zc.size=(s.length+1)*3:=by rw [<-hz];simp [madeCells]
 rw [hz]at hmk;have hc':=hc;have c1:decide ((fi:Int)<=(c:Int))=true:=decide_eq_true (by omega);have c2:decide (fi<=c)=true:=decide_eq_true (by omega);have c3:decide ((fi:Int)<=(s.length:Int))=true:=decide_eq_true (by omega);have c4:decide (fi<=s.length)=true:=decide_eq_true hfl;clear hz;go_enter Tryz.func51,Tryz.ntmps51
 go_wp2_with fail
 rw [<-HW.out];refine(HR.out _).mono ?_;rintro e w1⟨rfl,hb1⟩;have B1:=HB.out.below hb1 HB.out.lt;have Hb1:=Aa (Hb.out.trans (hb1.mono Hb.out.size));replace y0:=B1.cell 0;replace y1:=B1.cell 1;replace y2:=B1.cell 2;simp only [Ad,Af]at y0 y1 y2;have HB1:=Aa B1;clear HR hb1 B1 HB Hb
 go_wp2_with fail
 refine(HF.out _ Hb1.out).mono ?_;rintro e w2⟨rfl,hb2⟩;have Hb2:=Aa (Hb1.out.trans (hb2.mono Hb1.out.size));have HB2:=Aa (HB1.out.below hb2 HB1.out.lt);replace y0:=HB2.out.cell 0;replace y1:=HB2.out.cell 1;replace y2:=HB2.out.cell 2;simp only [Ad,Af]at y0 y1 y2;clear HF hb2 HB1 Hb1;have hm1:=hmk w2;obtain⟨W2,hW2⟩:∃W2,W2=w2.alloc (.cells zc 87):=⟨_,rfl⟩;rw [<-hW2]at hm1;have hO2:W2.ownsRow w.heap.size 87 3 (.slice (some ⟨w2.heap.size,0,none⟩) 0 (s.length+1)) 0 []:=⟨by simp,.inr ⟨w2.heap.size,s.length+1,zc,rfl,Hb2.out.size,hW2▸heap_alloc_new _ _,by omega,Bf (show s.length+1<=17 by omega) (by decide),by rw [hzs],by simp⟩⟩;have hb3:Below w2.heap.size w2 W2:=hW2▸(Below.refl _ _).alloc (Ae _) _;have HB3:=Aa (HB2.out.below hb3 HB2.out.lt);have Hb3:=Aa (Hb2.out.trans (hb3.mono Hb2.out.size));have QW:=Aa hO2;replace y0:=HB3.out.cell 0;replace y1:=HB3.out.cell 1;replace y2:=HB3.out.cell 2;simp only [Ad,Af]at y0 y1 y2;have hRt:Rd W2 A (fi*3) (Fb (s.take fi)):=by
  have h0:=Rd.below zA.out Hb3.out;refine⟨by rw [LH];simp;omega,fun hn=> ?_⟩;obtain⟨b9,o9,e9,l9,z9⟩:=h0.2 (by omega);exact⟨b9,o9,e9,l9,fun j hj=>by rw [z9 j (by omega),<-yO s fi hfl,List.getElem?_take,if_pos hj]⟩
 have gJ:=Aa hRt;clear hmk hW2 hO2 hb3 hRt
 go_wp2_with(at_builtin;first
  | (refine Jv rfl (.tmp 39) (.tmp 42) 45 rfl Tryz.jH (by decide) w.heap.size (.slice (some ⟨w2.heap.size,0,none⟩) 0 (s.length+1)) 0 [] rfl QW.out A fi c (Fb (s.take fi)) rfl gJ.out (Ya _) (by omega) (by decide) Hb3.out.size ?_
     intro v4 w4 hO4 hB4 hK4;rw [Nat.zero_add,Et]at hO4;obtain⟨A4,c4,hv4,_,_⟩:=Ea hO4;subst hv4;have YT:=Aa hO4;have Hb4:=Aa (Hb3.out.trans hB4);have B4:BI w4 w.heap.size 87 [.string x.key,.string x.text,.bool x.gone]:=(hK4.2 w.heap.size HB3.out.lt (by have:=HB2.out.lt;simp only [AX,ne_eq,Option.some.injEq];omega)).trans HB3.out;replace y0:=B4.cell 0;replace y1:=B4.cell 1;replace y2:=B4.cell 2;simp only [Ad,Af]at y0 y1 y2;clear hO4 hB4 hK4 B4)
  | (refine DZ rfl (.tmp 44) (.tmp 46) 45 rfl Tryz.jH w4 w.heap.size (.slice A4 fi c4) fi (Fb (s.take fi)) [.string x.key,.string x.text,.bool x.gone] rfl YT.out rfl w4.heap.size 1 rfl rfl rfl (by decide) (by intro u hu;simp at hu;rcases hu with rfl| rfl| rfl<;>rfl) (by omega) (by decide) Hb4.out.size ?_
     intro g5 c5 w5 zo ja hK5 hg5;have Z7:=Aa zo;have Hb5:=Aa (Hb4.out.trans ja);have hRt:Rd w5 (if c=fi then A else A.map fun a=>a.add (fi*3)) ((s.length-fi)*3) (Fb (s.drop fi)):=by
      have h0:=Rd.below zA.out Hb5.out;refine⟨by rw [LH];simp,fun hn=> ?_⟩;obtain⟨b9,o9,e9,l9,z9⟩:=h0.2 (by omega);subst e9;exact⟨b9,o9+fi*3,by rw [if_neg (by omega),Option.map_some,Addr.add_lit],l9,fun j hj=>by rw [Nat.add_assoc,z9 (fi*3+j) (by omega),<-yP s fi hfl,List.getElem?_drop]⟩
     have Aok:=Aa hRt;clear zo ja hK5 hg5 hRt)
  | (refine Jv rfl (.tmp 48) (.tmp 51) 45 rfl Tryz.jH (by decide) w.heap.size (.slice (some ⟨g5,0,none⟩) (fi+1) c5) (fi+1) (Fb (s.take fi)++[.string x.key,.string x.text,.bool x.gone]) rfl Z7.out (if c=fi then A else A.map fun a=>a.add (fi*3)) (s.length-fi) (c-fi) (Fb (s.drop fi)) rfl Aok.out (Ya _) (by omega) (by decide) Hb5.out.size ?_
     intro v6 w6 XQ QV hK6;have dV:=Aa XQ;have Hb6:=Aa (Hb5.out.trans QV);clear XQ QV hK6)
  | fail)
 all_goals(
  go_ret2;have e1:fi+1+(s.length-fi)=(s.take fi++x::s.drop fi).length:=by simp;omega
  have e2:Fb (s.take fi)++[.string x.key,.string x.text,.bool x.gone]++Fb (s.drop fi)=Fb (s.take fi++x::s.drop fi):=by rw [Yb];simp [Fb,wrC]
  exact⟨v6,by rw [HP.out];rfl,by rw [HP.out,<-e1,<-e2];exact dV.out,Hb6.out⟩)
end
theorem rV{w:World}{G:Nat->Prop}{v:Value}{s:List Wr}(h:H9 w G v s)(hs:s.length<=16)(x:Wr)(hk:x.key.size<=4294967296)(ht:x.text.size<=4294967296)(hu:XW s):
 Calls Tryz.prog 51 #[v,NV x] w fun e w'=>∃u,e= .returned (.tuple #[u,.int .i64 (J8 s x).2])/\w'.ownsRow w.heap.size 87 3 u (J8 s x).1.length (Fb (J8 s x).1)/\Below w.heap.size w w':=by
 cases hx:Dk x with
 | false=>exact lK h hs x hk ht hx
 | true=>
   cases hn:gQ s x.key with
   | true=>exact lL h hs x hk ht hx hu hn
   | false=>
     by_cases hl:16<=s.length
     ·exact gp h hs x hk ht hx hu hn hl
     ·exact lM h hs x hk ht hx hu hn (by omega)
theorem Tryz.Aik:J4 Tryz.prog 52 45 (.slice none 0 0) 1 24:=⟨Tryz.underlying52,by kernel_rfl,rfl⟩
def Vr(w:World)(A:Option Addr)(l:List (List Wr)):Prop:=∀i(h:i<l.length),∃b off Ai ci,A=some ⟨b,off,none⟩/\b<w.heap.size/\w.cell? ⟨b,off+i,none⟩=some (.slice Ai l[i].length ci)/\l[i].length<=maxLen/\Rd w Ai (l[i].length*3) (Fb l[i])
theorem Vr.below{w w':World}{A:Option Addr}{l:List (List Wr)}(h:Vr w A l)(k:Below w.heap.size w w'):Vr w' A l:=fun i hi=>by
 obtain⟨b,off,Ai,ci,h1,h2,h3,h4,h5⟩:=h i hi;exact⟨b,off,Ai,ci,h1,Nat.lt_of_lt_of_le h2 k.size,(World.cell?_of_block (w:=w) (k.block _ h2)).trans h3,h4,Rd.below h5 k⟩
def GoodS(s:List Wr):Prop:=(∀y∈s,Dk y=true)/\XW s/\s.length<=16
theorem GoodS.nil:GoodS []:=⟨fun _ h=>(nomatch h),List.Pairwise.nil,by decide⟩
theorem GoodS.put{s:List Wr}(h:GoodS s)(x:Wr):GoodS (J8 s x).1:=⟨pY h.1 x,Aee h.2.1 x,by have:=Abb s x;have:=h.2.2;omega⟩
def OT(w:World)(G:Nat->Prop)(v:Value)(ps:List (Value×List Wr)):Prop:=∃A c,v= .slice A ps.length c/\JI w G A ps.length (ps.map Prod.fst)/\∀q∈ps,H9 w G q.1 q.2/\GoodS q.2
theorem OT.moved{w w':World}{G G':Nat->Prop}{v:Value}{ps:List (Value×List Wr)}(h:OT w G v ps)(m:AB G G' w w'):OT w' G' v ps:=by
 obtain⟨A,c,e,h1,h2⟩:=h;exact⟨A,c,e,h1.moved m,fun q hq=>⟨(h2 q hq).1.moved m,(h2 q hq).2⟩⟩
theorem OT.below{w w':World}{G:Nat->Prop}{v:Value}{ps:List (Value×List Wr)}(h:OT w G v ps)(k:Below w.heap.size w w'):OT w' G v ps:=h.moved (AB.of_below k)
theorem OT.mono{w:World}{F G:Nat->Prop}{v:Value}{ps:List (Value×List Wr)}(h:OT w G v ps)(k:∀b,b<w.heap.size->F b->G b):OT w F v ps:=by
 obtain⟨A,c,e,h1,h2⟩:=h;exact⟨A,c,e,h1.mono k,fun q hq=>⟨(h2 q hq).1.mono k,(h2 q hq).2⟩⟩
theorem Ail(l:List (List Wr))(A:Option Addr)(c:Nat)(w:World)(hl:l.length<=maxLen)(h:Vr w A l):Calls Tryz.prog 19 #[.slice A l.length c] w fun e w'=>Below w.heap.size w w'/\
 (e= .returned (.tuple #[.slice none 0 0,.bool false])\/∃v ps,e= .returned (.tuple #[v,.bool true])/\OT w' (fun _=>False) v ps/\ps.length<=12):=by
 unfold maxLen at hl;have HR:=Aa h;clear h;go_enter Tryz.func19,Tryz.ntmps19
 go_wp2_with fail
 go_loopw [4,12](fun u i wr=>∃(k:Nat)(ps:List (Value×List Wr)),k<=l.length/\k<=12/\i= .int .i64 (k:Nat)/\ps.length=k/\wr.ownsRow w.heap.size 45 1 u ps.length (ps.map Prod.fst)/\(∀q∈ps,H9 wr (fun b=>u.ownBlock=some b) q.1 q.2/\GoodS q.2)/\Below w.heap.size w wr)(fun _ i _=>l.length- (intOf i).toNat)
 case atStart=>exact⟨0,[],Nat.zero_le _,by decide,rfl,rfl,World.ownsRow_nil _ _ _ _,fun _ h=>(nomatch h),Below.refl _ _⟩
 case round=>
  obtain⟨k,ps,hk,hk2,rfl,hpk,hown,hps,hb⟩:=hrel;have HO:=Aa hown;have HP:=Aa hps;have HB:=Aa hb;clear hown hps hb;have fin:Hid (∃ps',OT wr (fun _=>False) u4 ps'/\ps'.length<=12):=Aa (by
   obtain⟨A',c',e',hc',_⟩:=Ea HO.out;refine⟨ps,⟨A',c',e',?_,fun q hq=>⟨(HP.out q hq).1.mono (fun _ _ h=>h.elim),(HP.out q hq).2⟩⟩,by omega⟩;have:=HO.out;rw [e']at this;exact JI.LY this (fun _ _ _ h=>h))
  by_cases hlt:k<l.length
  ·have hx1:(k:Int)<(l.length:Int):=by omega
   have hx2:decide ((k:Int)<(l.length:Int))=true:=decide_eq_true hx1;have hx5:decide (k<l.length)=true:=decide_eq_true hlt;have hwk:IntKind.i64.wrap ((k:Int)+1)=(k:Int)+1:=IntWalk.i64_in _ (by omega);obtain⟨b,off,Ai,ci,rfl,hbw,q0,hml,hrd⟩:=(HR.out.below HB.out) k hlt;unfold maxLen at hml;by_cases h12:k=12
   ·subst h12
    go_wp2_with fail
    go_ret2;obtain⟨ps',e2,e3⟩:=fin.out;exact⟨HB.out,.inr ⟨_,ps',rfl,e2,e3⟩⟩
   ·have t12:((k:Int)==12)=false:=by rw [beq_eq_false_iff_ne];omega
    have Apo:(k==12)=false:=by rw [beq_eq_false_iff_ne];exact h12
    clear fin;generalize l[k]=s at*;have HF:=Aa (qy s Ai ci wr (by omega) hrd);have zA:=Aa hrd;clear hrd;cases hfew:jK s with
    | false=>
      rw [hfew]at HF
      go_wp2_with fail
      refine HF.out.mono ?_;rintro e w1⟨rfl,hb1⟩;have HB1:=Aa (HB.out.trans (hb1.mono HB.out.size));clear hb1 HF
      go_wp2_with fail
      go_ret2;exact⟨HB1.out,.inl rfl⟩
    | true=>
      have HFw:=Aa (jL hfew);have Apq:s.length<=60:=(jL hfew).1;rw [hfew]at HF;clear hfew
      go_wp2_with fail
      refine HF.out.mono ?_;rintro e w1⟨rfl,hb1⟩;have HB1:=Aa hb1;clear hb1 HF
      go_wp2_with fail
      have HOw:Hid (∀b,u4.ownBlock=some b->b<wr.heap.size):=Aa (fun b hb=>by
       rcases HO.out.2 with⟨h1,_⟩| ⟨g,cap,cur,h1,_,h3,_⟩
       ·subst h1;cases hb
       ·subst h1;injection hb with hb;subst hb;exact(Array.getElem?_eq_some_iff.1 h3).1)
      obtain⟨wo,rfl⟩:∃wo,wo=wr:=⟨_,rfl⟩
      go_loopw [7,24](fun u i wq=>∃(m:Nat)(t:List Wr),m<=s.length/\i= .int .i64 (m:Nat)/\H9 wq (fun b=>u4.ownBlock=some b) u t/\GoodS t/\Below wo.heap.size wo wq)(fun _ i _=>s.length- (intOf i).toNat)
      case atStart=>exact⟨0,[],Nat.zero_le _,rfl,H9.nil,GoodS.nil,HB1.out⟩
      case round=>
       obtain⟨m,t,hm,rfl,hset,hgood,hbq⟩:=hrel;by_cases hlm:m<s.length
       ·have hm1:(m:Int)<(s.length:Int):=by omega
        have hm2:decide ((m:Int)<(s.length:Int))=true:=decide_eq_true hm1;have Qi:decide (m<s.length)=true:=decide_eq_true hlm;have hmk:IntKind.i64.wrap ((m:Int)+1)=(m:Int)+1:=IntWalk.i64_in _ (by omega);obtain⟨b3,Ajy,rfl,hbw3,r0,r1,r2⟩:=jJ (Rd.below zA.out hbq) m hlm;have hsz:=HFw.out.2 s[m] (List.getElem_mem hlm);generalize s[m]=y at*;obtain⟨W,hW⟩:∃W,W=wr.alloc (.cells #[.string y.key,.string y.text,.bool y.gone] 37):=⟨_,rfl⟩;have hbW:Below wr.heap.size wr W:=hW▸(Below.refl _ _).alloc (Ae _) _;have Py:=Aa (rV (hset.below hbW) hgood.2.2 y (by omega) (by omega) hgood.2.1);have HG:=Aa (hgood.put y);have HBW:=Aa (hbq.trans (hbW.mono hbq.size));have HW:=Aa hW;clear hset hgood hbq hbW hW;unfold NV at Py
        go_wp2_with fail
        rw [<-HW.out]
        try go_wp2_with fail
        refine Py.out.mono ?_;rintro e w3⟨u,rfl,hO3,hB3⟩;have P5:Hid (H9 w3 (fun b=>u4.ownBlock=some b) u (J8 t y).1):=Aa (jI hO3 rfl (fun b h1 _ h=>by have:=HOw.out b h;have:=HBW.out.size;omega));have HB3:=Aa (HBW.out.trans (hB3.mono HBW.out.size));clear hO3 hB3 Py
        go_wp2_with fail
        go_roundw
        case rel=>exact⟨m+1,_,by omega,by go_num,P5.out,HG.out,HB3.out⟩
        case measure=>simp [intOf];omega
       ·have hmn:m=s.length:=by omega
        subst hmn;have P5:=Aa hset;have HG:=Aa hgood;have hbs:w.heap.size<=wr.heap.size:=Bf HB.out.size hbq.size;have HB2:=Aa (HB.out.trans (hbq.mono HB.out.size));have QW:=Aa (ED HO.out (Kept.of_below (r:=none) hbq) (by
         rcases HO.out.2 with⟨h1,_⟩| ⟨g,cap,cur,h1,_⟩
         ·exact .inr (by subst h1;rfl)
         ·exact .inl (by subst h1;exact fun e=>nomatch e)))
        obtain⟨A7,c7,hu7⟩:=hset.slice;subst hu7;have HP2:Hid (∀q∈ps++[(.slice A7 t.length c7,t)],H9 wr (fun b=>u4.ownBlock=some b) q.1 q.2/\GoodS q.2):=Aa (fun q hq=>by
         rcases List.mem_append.1 hq with h| h
         ·exact⟨((HP.out q h).1.below hbq),(HP.out q h).2⟩
         ·rw [List.mem_singleton.1 h];exact⟨P5.out,HG.out⟩)
        have jP:Hid (∀v:Value,(ps++[(v,t)]).map Prod.fst=ps.map Prod.fst++[v]):=Aa (fun v=>by simp);clear hset hgood hbq HP P5
        go_wp2_with(at_builtin;refine DZ rfl (.tmp 35) (.tmp 37) 52 rfl Tryz.Aik _ w.heap.size u4 ps.length (ps.map Prod.fst) [.slice A7 t.length c7] rfl (by exact QW.out) rfl wr.heap.size 1 rfl (by simp) rfl (by decide) (by intro u hu;simp at hu;subst hu;rfl) (by omega) (by decide) hbs ?_;intro g6 c6 w6 XQ QV hK6 gK)
        have dV:=Aa XQ;have NH:=Aa QV;have Un:Hid (AB (fun b=>u4.ownBlock=some b) (fun b=>(Value.slice (some ⟨g6,0,none⟩) (ps.length+1) c6).ownBlock=some b) wr w6):=Aa ⟨⟨QV.os,QV.tape,QV.output,hK6.1,fun b hb' hn=>hK6.2 b hb' (fun e=>hn e.symm)⟩,fun b hb=>by
         simp only [AX,Option.some.injEq]at hb;subst hb;exact gK⟩
        clear XQ QV hK6 gK
        go_wp2_with fail
        go_roundw
        case rel=>
         refine⟨k+1,ps++[(.slice A7 t.length c7,t)],by omega,by omega,by go_num,by simp;omega,?_,fun q hq=>⟨(HP2.out q hq).1.moved Un.out,(HP2.out q hq).2⟩,HB2.out.trans NH.out⟩;rw [jP.out,List.length_append,hpk];have:=dV.out;rw [hpk]at this;exact this
        case measure=>simp [intOf];omega
  ·have hkn:k=l.length:=by omega
   have hx1:¬(k:Int)<(l.length:Int):=by omega
   have hx2:decide ((k:Int)<(l.length:Int))=false:=decide_eq_false hx1
   go_wp2_with fail
   go_ret2;obtain⟨ps',e2,e3⟩:=fin.out;refine⟨HB.out,.inr ?_⟩
   first| exact⟨_,ps',rfl,e2,e3⟩| exact⟨_,rfl,ps',e2,e3⟩
end Go.Proofs.YtjcppneoncpdbaaGreatDoor
