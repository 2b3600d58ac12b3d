import Derived.Test.YtkimaejoeapmnaaGreatDoorH16
set_option linter.defProp false
set_option maxHeartbeats 32000000
set_option maxRecDepth 100000
open Nat renaming le_trans->Bc
open List renaming take_append_drop->GX,nil_append->EM
open Go.Lib renaming hid->Aa
open Go.Value renaming ownBlock->Bd
namespace Go.Proofs.YtkimaejoeapmnaaGreatDoor
open Go.RowKit
open Go.Proofs.Tryz
def Xn{w:World}{base base' k n:Nat}{e:TypeId}{v:Value}{xs:List Value}(h:w.ownsRow base e k v n xs)(hb:base'<=base):w.ownsRow base' e k v n xs:=
 ⟨h.1,h.2.imp id λ⟨g,cap,cur,a,b,c⟩=>⟨g,cap,cur,a,Bc hb b,c⟩⟩
def tu:∀(s:List Wr)(k:Nat)(x:Wr),k<s.length->(((FQ s).set (k*3) (.string x.key)).set (k*3+1) (.string x.text)).set (k*3+2) (.bool x.gone)=FQ (s.set k x)
 | y::t,0,x,_=>by simp [FQ,wrC]
 | y::t,k+1,x,h=>by
   have ih:=tu t k x (by simpa using h);have e:FQ (y::t)= .string y.key:: .string y.text:: .bool y.gone::FQ t:=by simp [FQ,wrC]
   have e2:FQ ((y::t).set (k+1) x)= .string y.key:: .string y.text:: .bool y.gone::FQ (t.set k x):=by simp [FQ,wrC]
   rw [e,e2,show(k+1)*3=k*3+1+1+1 by omega];simp only [List.set_cons_succ];rw [ih]
def Aeg(s:List Wr)(k:Nat)(hk:k<=s.length):(FQ s).take (k*3)=FQ (s.take k):=by
 have h:=az (s.take k) (s.drop k);rw [GX]at h;rw [h,List.take_append_of_le_length (by rw [MO];simp;omega),List.take_of_length_le (by rw [MO];simp;omega)]
def Aeh(s:List Wr)(k:Nat)(hk:k<=s.length):(FQ s).drop (k*3)=FQ (s.drop k):=by
 have h:=az (s.take k) (s.drop k);rw [GX]at h;have hl:(FQ (s.take k)).length=k*3:=by rw [MO];simp;omega
 rw [h,List.drop_append_of_le_length O,<-hl,List.drop_length,EM]
section
variable{w:World}{G:Nat->Prop}{v:Value}{s:List Wr}
def tC(h:I4 w G v s)(hs:s.length<=16)(x:Wr)(hk:x.key.size<=4294967296)(ht:x.text.size<=4294967296)(hx:Dz x=false):
 Calls prog 43 #[v,U1 x] w λe w'=>∃u,e= .returned (.tuple #[u,.int .i64 (JZ s x).2])/\w'.ownsRow w.heap.size 74 3 u (JZ s x).1.length (FQ (JZ s x).1)/\η w w':=by
 obtain⟨W,hW,hb,B⟩:=EZ w 74 [.string x.key,.string x.text,.bool x.gone];have HR:=Aa (λW=>PE x W hk ht);rw [hx]at HR;have QX:=Aa (λW(k:η w W)=>PG (h.below k) O);obtain⟨A,c,rfl,hc,hro⟩:=h;have HRd:=Aa hro.1;have HB:=Aa B;have Hb:=Aa hb;have HW:=Aa hW;obtain⟨y0,y1,y2⟩:=B.p3;rw [hW]at y0 y1 y2;unfold U1 at HR⊢;have HP:Hid (JZ s x=(s,2)):=Aa (by unfold JZ;rw [if_pos hx]);clear hx B hb hW hro;go_enter func43,ntmps43
 go_wp2_with fail
 rw [<-HW.out];refine(HR.out _).mono ?_;rintro e w1⟨rfl,hb1⟩;have Hb1:=Aa (τ Hb.out hb1);clear HR hb1 HB Hb y0 y1 y2
 go_wp2_with fail
 refine(QX.out _ Hb1.out).mono ?_;rintro e w2⟨u,rfl,hO,hb2⟩;have HO:=Aa (Xn hO Hb1.out.size);have Hb2:=Aa (τ Hb1.out hb2);clear hO hb2
 go_wp2_with fail
 go_ret2;exact⟨u,by rw [HP.out];rfl,by rw [HP.out];exact HO.out,Hb2.out⟩
def lZ(h:I4 w G v s)(hs:s.length<=16)(x:Wr)(hk:x.key.size<=4294967296)(ht:x.text.size<=4294967296)(hx:Dz x=true)(hu:af s)(hn:nD s x.key=false)(hl:16<=s.length):
 Calls prog 43 #[v,U1 x] w λe w'=>∃u,e= .returned (.tuple #[u,.int .i64 (JZ s x).2])/\w'.ownsRow w.heap.size 74 3 u (JZ s x).1.length (FQ (JZ s x).1)/\η w w':=by
 obtain⟨W,hW,hb,B⟩:=EZ w 74 [.string x.key,.string x.text,.bool x.gone];have HR:=Aa (λW=>PE x W hk ht);rw [hx]at HR;have QX:=Aa (λW(k:η w W)=>PG (h.below k) O);obtain⟨A,c,rfl,hc,hro⟩:=h;have HRd:=Aa hro.1;have HB:=Aa B;have Hb:=Aa hb;have HW:=Aa hW;obtain⟨y0,y1,y2⟩:=B.p3;rw [hW]at y0 y1 y2;unfold U1 at HR⊢;have HP:Hid (JZ s x=(s,3)):=Aa (by unfold JZ;rw [if_neg (by rw [hx];decide),if_neg (by rw [hn];decide),if_pos hl]);have HF:=Aa (λW(k:η w W)=>aC (c:=c) x.key O (Rd.below HRd.out k) hu);rw [hn]at HF;obtain⟨fi,hfi⟩:∃fi,GN s x.key=fi:=⟨_,rfl⟩;rw [hfi]at HF;have t1:decide ((16:Int)<=(s.length:Int))=true:=decide_eq_true O;clear hx hn hu hfi hl B hb hW hro;go_enter func43,ntmps43
 go_wp2_with fail
 rw [<-HW.out];refine(HR.out _).mono ?_;rintro e w1⟨rfl,hb1⟩;have B1:=HB.out.ξ hb1;have Hb1:=Aa (τ Hb.out hb1);clear y0 y1 y2;obtain⟨y0,y1,y2⟩:=B1.p3;have HB1:=Aa B1;clear HR hb1 B1 HB Hb
 go_wp2_with fail
 refine(HF.out _ Hb1.out).mono ?_;rintro e w2⟨rfl,hb2⟩;have Hb2:=Aa (τ Hb1.out hb2);have HB2:=Aa (HB1.out.ξ hb2);clear y0 y1 y2;obtain⟨y0,y1,y2⟩:=HB2.out.p3;clear HF hb2 HB1 Hb1
 go_wp2_with fail
 refine(QX.out _ Hb2.out).mono ?_;rintro e w3⟨u,rfl,hO,hb3⟩;have HO:=Aa (Xn hO Hb2.out.size);have Hb3:=Aa (τ Hb2.out hb3);clear hO hb3
 go_wp2_with fail
 go_ret2;exact⟨u,by rw [HP.out];rfl,by rw [HP.out];exact HO.out,Hb3.out⟩
def tH(h:I4 w G v s)(hs:s.length<=16)(x:Wr)(hk:x.key.size<=4294967296)(ht:x.text.size<=4294967296)(hx:Dz x=true)(hu:af s)(hn:nD s x.key=true):
 Calls prog 43 #[v,U1 x] w λe w'=>∃u,e= .returned (.tuple #[u,.int .i64 (JZ s x).2])/\w'.ownsRow w.heap.size 74 3 u (JZ s x).1.length (FQ (JZ s x).1)/\η w w':=by
 obtain⟨W,hW,hb,B⟩:=EZ w 74 [.string x.key,.string x.text,.bool x.gone];have HR:=Aa (λW=>PE x W hk ht);rw [hx]at HR;have QX:=Aa (λW(k:η w W)=>PG (h.below k) O);obtain⟨A,c,rfl,hc,hro⟩:=h;have HRd:=Aa hro.1;have HB:=Aa B;have Hb:=Aa hb;have HW:=Aa hW;obtain⟨y0,y1,y2⟩:=B.p3;rw [hW]at y0 y1 y2;unfold U1 at HR⊢;have HP:Hid (JZ s x=(s.set (GN s x.key) x,0)):=Aa (by unfold JZ;rw [if_neg (by rw [hx];decide),if_pos hn]);have HF:=Aa (λW(k:η w W)=>aC (c:=c) x.key O (Rd.below HRd.out k) hu);rw [hn]at HF;have hfl:=Agu hn;obtain⟨fi,hfi⟩:∃fi,GN s x.key=fi:=⟨_,rfl⟩;rw [hfi]at HF HP hfl;obtain⟨t1,t2⟩:=Aus hfl;clear hx hn hu hfi B hb hW hro;go_enter func43,ntmps43
 go_wp2_with fail
 rw [<-HW.out];refine(HR.out _).mono ?_;rintro e w1⟨rfl,hb1⟩;have B1:=HB.out.ξ hb1;have Hb1:=Aa (τ Hb.out hb1);clear y0 y1 y2;obtain⟨y0,y1,y2⟩:=B1.p3;have HB1:=Aa B1;clear HR hb1 B1 HB Hb
 go_wp2_with fail
 refine(HF.out _ Hb1.out).mono ?_;rintro e w2⟨rfl,hb2⟩;have Hb2:=Aa (τ Hb1.out hb2);have HB2:=Aa (HB1.out.ξ hb2);clear y0 y1 y2;obtain⟨y0,y1,y2⟩:=HB2.out.p3;clear HF hb2 HB1 Hb1
 go_wp2_with fail
 refine(QX.out _ Hb2.out).mono ?_;rintro e w3⟨u,rfl,hO,hb3⟩;obtain⟨b5,c5,rfl,hb5⟩:∃b5 c5,u= .slice (some (Φ b5)) s.length c5/\w2.heap.size<=b5:=by
  rcases hO.2 with⟨_,e2⟩| ⟨g,cap,cur,e1,e2,_⟩
  ·omega
  ·exact⟨g,cap,e1,e2⟩
 have HO:=Aa (Xn hO Hb2.out.size);have Hb3:=Aa (τ Hb2.out hb3);have HB3:=Aa (HB2.out.ξ hb3);have fz:=HO.out.frozenAt;have Hlt:Hid (w.heap.size<w2.heap.size):=Aa HB2.out.lt;clear y0 y1 y2;obtain⟨y0,y1,y2⟩:=HB3.out.p3;have hz:w3.cell? (Δ b5 (fi*3))=some (.string s[fi].key)/\w3.cell? (Δ b5 (fi*3+1))=some (.string s[fi].text)/\w3.cell? (Δ b5 (fi*3+2))=some (.bool s[fi].gone):=by
  obtain⟨A9,c9,e9,_,r9⟩:=DL HO.out;obtain⟨b8,o8,e8,_,z⟩:=qy r9 fi hfl;subst e8;simp only [Value.slice.injEq,Option.some.injEq,Addr.mk.injEq]at e9;obtain⟨⟨e1,e2,_⟩,_⟩:=e9;subst e1 e2;simpa using z
 obtain⟨z0,z1,z2⟩:=hz;generalize s[fi].key=k9,s[fi].text=k8,s[fi].gone=k7 at z0 z1 z2;clear hO hb3 QX;have Apa:w.heap.size<=b5:=Bc Hb2.out.size hb5;have MC:=Aa hfl
 go_wp2_with fail
 have s3:=(((HO.out.stored (fi*3) (.string x.key)).1.stored (fi*3+1) (.string x.text)).1.stored (fi*3+2) (.bool x.gone)).1;have k3:=((Hb3.out.setCell (p:=Δ b5 (fi*3)) Apa (.string x.key)).setCell (p:=Δ b5 (fi*3+1)) Apa (.string x.text)).setCell (p:=Δ b5 (fi*3+2)) Apa (.bool x.gone);rw [tu s fi x MC.out]at s3;go_ret2;exact⟨_,by rw [HP.out];rfl,by rw [HP.out];simpa using s3,k3⟩
def tJ(h:I4 w G v s)(hs:s.length<=16)(x:Wr)(hk:x.key.size<=4294967296)(ht:x.text.size<=4294967296)(hx:Dz x=true)(hu:af s)(hn:nD s x.key=false)(hl:s.length<16):
 Calls prog 43 #[v,U1 x] w λe w'=>∃u,e= .returned (.tuple #[u,.int .i64 (JZ s x).2])/\w'.ownsRow w.heap.size 74 3 u (JZ s x).1.length (FQ (JZ s x).1)/\η w w':=by
 obtain⟨W,hW,hb,B⟩:=EZ w 74 [.string x.key,.string x.text,.bool x.gone];have HR:=Aa (λW=>PE x W hk ht);rw [hx]at HR;have QX:=Aa (λW(k:η w W)=>PG (h.below k) O);obtain⟨A,c,rfl,hc,hro⟩:=h;have HRd:=Aa hro.1;have HB:=Aa B;have Hb:=Aa hb;have HW:=Aa hW;obtain⟨y0,y1,y2⟩:=B.p3;rw [hW]at y0 y1 y2;unfold U1 at HR⊢;have HP:Hid (JZ s x=(s.take (GN s x.key)++x::s.drop (GN s x.key),0)):=Aa (by unfold JZ;rw [if_neg (by rw [hx];decide),if_neg (by rw [hn];decide),if_neg O]);have HF:=Aa (λW(k:η w W)=>aC (c:=c) x.key O (Rd.below HRd.out k) hu);rw [hn]at HF;have hfl:=ag s x.key;obtain⟨fi,hfi⟩:∃fi,GN s x.key=fi:=⟨_,rfl⟩;rw [hfi]at HF HP hfl;have t1:decide ((16:Int)<=(s.length:Int))=false:=decide_eq_false O;clear hx hn hu hfi B hb hW hro;have hmk:∀W:World,(Instr.makeSlice 53 (.int .i64 0) (.int .i64 ((s.length:Int)+1))).run prog W= .ok (.slice (some (Φ W.heap.size)) 0 (s.length+1)) (W.alloc (.cells (madeCells (Value.agg #[.string ⟨#[]⟩,.string ⟨#[]⟩,.bool false]).cells ((s.length+1)*3)) 74)):=λW=>by
  obtain⟨i0,hi,hz0,hz1,hz2⟩:=info_parts Tryz.qp.hi;have:=run_make (P:=prog) (w:=W) 53 74 i0 _ underlying53 hi hz0 .i64 .i64 0 ((s.length:Int)+1) O O (by rw [hz2];omega) O;rw [hz1]at this;simpa [show((s.length:Int)+1).toNat=s.length+1 by omega]using this
 obtain⟨zc,hz⟩:∃zc,madeCells (Value.agg #[.string ⟨#[]⟩,.string ⟨#[]⟩,.bool false]).cells ((s.length+1)*3)=zc:=⟨_,rfl⟩;have hzs:zc.size=(s.length+1)*3:=by rw [<-hz];simp [madeCells]
 rw [hz]at hmk;have hc':=hc;have c1:decide ((fi:Int)<=(c:Int))=true:=decide_eq_true O;have c2:decide (fi<=c)=true:=decide_eq_true O;have c3:decide ((fi:Int)<=(s.length:Int))=true:=decide_eq_true O;have c4:decide (fi<=s.length)=true:=decide_eq_true hfl;clear hz;go_enter func43,ntmps43
 go_wp2_with fail
 rw [<-HW.out];refine(HR.out _).mono ?_;rintro e w1⟨rfl,hb1⟩;have B1:=HB.out.ξ hb1;have Hb1:=Aa (τ Hb.out hb1);clear y0 y1 y2;obtain⟨y0,y1,y2⟩:=B1.p3;have HB1:=Aa B1;clear HR hb1 B1 HB Hb
 go_wp2_with fail
 refine(HF.out _ Hb1.out).mono ?_;rintro e w2⟨rfl,hb2⟩;have Hb2:=Aa (τ Hb1.out hb2);have HB2:=Aa (HB1.out.ξ hb2);clear y0 y1 y2;obtain⟨y0,y1,y2⟩:=HB2.out.p3;clear HF hb2 HB1 Hb1;have hm1:=hmk w2;obtain⟨W2,hW2⟩:∃W2,W2=w2.alloc (.cells zc 74):=⟨_,rfl⟩;rw [<-hW2]at hm1;have hO2:W2.ownsRow w.heap.size 74 3 (.slice (some (Φ w2.heap.size)) 0 (s.length+1)) 0 []:=⟨by simp,.inr ⟨w2.heap.size,s.length+1,zc,rfl,Hb2.out.size,hW2▸heap_alloc_new _ _,O,Bc (show s.length+1<=17 by omega) U,by rw [hzs],by simp⟩⟩;have hb3:η w2 W2:=hW2▸(Below.refl _ _).alloc (Nat.le_refl _) _;have HB3:=Aa (HB2.out.ξ hb3);have Hb3:=Aa (τ Hb2.out hb3);have SY:=Aa hO2;clear y0 y1 y2;obtain⟨y0,y1,y2⟩:=HB3.out.p3;have hRt:Rd W2 A (fi*3) (FQ (s.take fi)):=by
  have h0:=Rd.below HRd.out Hb3.out;refine⟨by rw [MO];simp;omega,λhn=> ?_⟩;obtain⟨b9,o9,e9,l9,z9⟩:=h0.2 O;exact⟨b9,o9,e9,l9,λj hj=>by rw [z9 j O,<-Aeg s fi hfl,List.getElem?_take,if_pos hj]⟩
 have nz:=Aa hRt;clear hmk hW2 hO2 hb3 hRt
 go_wp2_with(at_builtin;first
  | (refine JM rfl (.tmp 39) (.tmp 42) 53 rfl Tryz.qp U w.heap.size (.slice (some (Φ w2.heap.size)) 0 (s.length+1)) 0 [] rfl SY.out A fi c (FQ (s.take fi)) rfl nz.out (ay _) O U Hb3.out.size ?_
     intro v4 w4 hO4 hB4 hK4;rw [Nat.zero_add,EM]at hO4;obtain⟨A4,c4,hv4,_,_⟩:=DL hO4;subst hv4;have bY:=Aa hO4;have Hb4:=Aa (Hb3.out.trans hB4);have B4:CS w4 w.heap.size 74 [.string x.key,.string x.text,.bool x.gone]:=(hK4.2 w.heap.size HB3.out.lt (by have:=HB2.out.lt;simp only [Bd,ne_eq,Option.some.injEq];omega)).trans HB3.out;clear y0 y1 y2;obtain⟨y0,y1,y2⟩:=B4.p3;clear hO4 hB4 hK4 B4)
  | (refine Ep rfl (.tmp 44) (.tmp 46) 53 rfl Tryz.qp w4 w.heap.size (.slice A4 fi c4) fi (FQ (s.take fi)) [.string x.key,.string x.text,.bool x.gone] rfl bY.out rfl w4.heap.size 1 rfl rfl rfl U (by intro u hu;simp at hu;rcases hu with rfl| rfl| rfl<;>rfl) O U Hb4.out.size ?_
     intro g5 c5 w5 hO5 pq hK5 hg5;have fE:=Aa hO5;have Hb5:=Aa (Hb4.out.trans pq);have hRt:Rd w5 (if c=fi then A else A.map λa=>a.add (fi*3)) ((s.length-fi)*3) (FQ (s.drop fi)):=by
      have h0:=Rd.below HRd.out Hb5.out;refine⟨by rw [MO];simp,λhn=> ?_⟩;obtain⟨b9,o9,e9,l9,z9⟩:=h0.2 O;subst e9;exact⟨b9,o9+fi*3,by rw [if_neg O,Option.map_some,Addr.add_lit],l9,λj hj=>by rw [Nat.add_assoc,z9 (fi*3+j) O,<-Aeh s fi hfl,List.getElem?_drop]⟩
     have Awi:=Aa hRt;clear hO5 pq hK5 hg5 hRt)
  | (refine JM rfl (.tmp 48) (.tmp 51) 53 rfl Tryz.qp U w.heap.size (.slice (some (Φ g5)) (fi+1) c5) (fi+1) (FQ (s.take fi)++[.string x.key,.string x.text,.bool x.gone]) rfl fE.out (if c=fi then A else A.map λa=>a.add (fi*3)) (s.length-fi) (c-fi) (FQ (s.drop fi)) rfl Awi.out (ay _) O U Hb5.out.size ?_
     intro v6 w6 ZV O5 hK6;have kP:=Aa ZV;have Hb6:=Aa (Hb5.out.trans O5);clear ZV O5 hK6)
  | fail)
 all_goals(
  go_ret2;have e1:fi+1+(s.length-fi)=(s.take fi++x::s.drop fi).length:=by simp;omega
  have e2:FQ (s.take fi)++[.string x.key,.string x.text,.bool x.gone]++FQ (s.drop fi)=FQ (s.take fi++x::s.drop fi):=by rw [az];simp [FQ,wrC]
  exact⟨v6,by rw [HP.out];rfl,by rw [HP.out,<-e1,<-e2];exact kP.out,Hb6.out⟩)
end
def yZ{w:World}{G:Nat->Prop}{v:Value}{s:List Wr}(h:I4 w G v s)(hs:s.length<=16)(x:Wr)(hk:x.key.size<=4294967296)(ht:x.text.size<=4294967296)(hu:af s):
 Calls prog 43 #[v,U1 x] w λe w'=>∃u,e= .returned (.tuple #[u,.int .i64 (JZ s x).2])/\w'.ownsRow w.heap.size 74 3 u (JZ s x).1.length (FQ (JZ s x).1)/\η w w':=by
 cases hx:Dz x with
 | false=>exact tC h hs x hk ht hx
 | true=>
   cases hn:nD s x.key with
   | true=>exact tH h hs x hk ht hx hu hn
   | false=>
     by_cases hl:16<=s.length
     ·exact lZ h hs x hk ht hx hu hn hl
     ·exact tJ h hs x hk ht hx hu hn O
def Tryz.Apb:JS prog 45 53 (.slice none 0 0) 1 24:=⟨underlying45,by kernel_rfl,rfl⟩
def Xo(w:World)(A:Option Addr)(l:List (List Wr)):Prop:=∀i(h:i<l.length),∃b off Ai ci,A=some (Δ b off)/\b<w.heap.size/\w.cell? (Δ b (off+i))=some (.slice Ai l[i].length ci)/\l[i].length<=maxLen/\Rd w Ai (l[i].length*3) (FQ l[i])
def Xo.below{w w':World}{A:Option Addr}{l:List (List Wr)}(h:Xo w A l)(k:η w w'):Xo w' A l:=λi hi=>by
 obtain⟨b,off,Ai,ci,h1,h2,h3,h4,h5⟩:=h i hi;exact⟨b,off,Ai,ci,h1,Nat.lt_of_lt_of_le h2 k.size,(World.cell?_of_block (w:=w) (k.block _ h2)).trans h3,h4,Rd.below h5 k⟩
def GoodS(s:List Wr):Prop:=(∀y∈s,Dz y=true)/\af s/\s.length<=16
def GoodS.nil:GoodS []:=⟨λ_ h=>(nomatch h),List.Pairwise.nil,by decide⟩
def GoodS.put{s:List Wr}(h:GoodS s)(x:Wr):GoodS (JZ s x).1:=⟨xE h.1 x,Aka h.2.1 x,Ψ (Agv s x) h.2.2⟩
def OI(w:World)(G:Nat->Prop)(v:Value)(ps:List (Value×List Wr)):Prop:=∃A c,v= .slice A ps.length c/\Ja w G A ps.length (ps.map Prod.fst)/\∀q∈ps,I4 w G q.1 q.2/\GoodS q.2
def OI.moved{w w':World}{G G':Nat->Prop}{v:Value}{ps:List (Value×List Wr)}(h:OI w G v ps)(m:AP G G' w w'):OI w' G' v ps:=by
 obtain⟨A,c,e,h1,h2⟩:=h;exact⟨A,c,e,h1.moved m,λq hq=>⟨(h2 q hq).1.moved m,(h2 q hq).2⟩⟩
def OI.below{w w':World}{G:Nat->Prop}{v:Value}{ps:List (Value×List Wr)}(h:OI w G v ps)(k:η w w'):OI w' G v ps:=h.moved (AP.of_below k)
def OI.mono{w:World}{F G:Nat->Prop}{v:Value}{ps:List (Value×List Wr)}(h:OI w G v ps)(k:∀b,b<w.heap.size->F b->G b):OI w F v ps:=by
 obtain⟨A,c,e,h1,h2⟩:=h;exact⟨A,c,e,h1.mono k,λq hq=>⟨(h2 q hq).1.mono k,(h2 q hq).2⟩⟩
def Apc(l:List (List Wr))(A:Option Addr)(c:Nat)(w:World)(hl:l.length<=maxLen)(h:Xo w A l):Calls prog 13 #[.slice A l.length c] w λe w'=>η w w'/\
 (e= .returned (.tuple #[.slice none 0 0,.bool false])\/∃v ps,e= .returned (.tuple #[v,.bool true])/\OI w' (λ_=>False) v ps/\ps.length<=12):=by
 unfold maxLen at hl;have HR:=Aa h;clear h;go_enter func13,ntmps13
 go_wp2_with fail
 go_loopw [4,12](λu i wr=>∃(k:Nat)(ps:List (Value×List Wr)),k<=l.length/\k<=12/\i= .int .i64 (k:Nat)/\ps.length=k/\wr.ownsRow w.heap.size 53 1 u ps.length (ps.map Prod.fst)/\(∀q∈ps,I4 wr (λb=>u.ownBlock=some b) q.1 q.2/\GoodS q.2)/\η w wr)(λ_ i _=>l.length- (intOf i).toNat)
 case atStart=>exact⟨0,[],Nat.zero_le _,by decide,rfl,rfl,World.ownsRow_nil _ _ _ _,λ_ h=>(nomatch h),Below.refl _ _⟩
 case round=>
  obtain⟨k,ps,hk,hk2,rfl,hpk,hown,hps,hb⟩:=hrel;have HO:=Aa hown;have HP:=Aa hps;have HB:=Aa hb;clear hown hps hb;have fin:Hid (∃ps',OI wr (λ_=>False) u4 ps'/\ps'.length<=12):=Aa (by
   obtain⟨A',c',e',hc',_⟩:=DL HO.out;refine⟨ps,⟨A',c',e',?_,λq hq=>⟨(HP.out q hq).1.mono (λ_ _ h=>h.elim),(HP.out q hq).2⟩⟩,O⟩;have:=HO.out;rw [e']at this;exact Ja.JU this (λ_ _ _ h=>h))
  by_cases hlt:k<l.length
  ·obtain⟨hx1,hx2,hx5⟩:=Yg hlt;have hwk:=eX k O;obtain⟨b,off,Ai,ci,rfl,hbw,q0,hml,hrd⟩:=(HR.out.below HB.out) k hlt;unfold maxLen at hml;by_cases h12:k=12
   ·subst h12
    go_wp2_with fail
    go_ret2;obtain⟨ps',e2,e3⟩:=fin.out;exact⟨HB.out,.inr ⟨_,ps',rfl,e2,e3⟩⟩
   ·have t12:((k:Int)==12)=false:=by rw [beq_eq_false_iff_ne];omega
    have Axw:(k==12)=false:=by rw [beq_eq_false_iff_ne];exact h12
    clear fin;generalize l[k]=s at*;have HF:=Aa (xW s Ai ci wr O hrd);have HRd:=Aa hrd;clear hrd;cases hfew:qA s with
    | false=>
      rw [hfew]at HF
      go_wp2_with fail
      refine HF.out.mono ?_;rintro e w1⟨rfl,hb1⟩;have HB1:=Aa (τ HB.out hb1);clear hb1 HF
      go_wp2_with fail
      go_ret2;exact⟨HB1.out,.inl rfl⟩
    | true=>
      have HFw:=Aa (qB hfew);have Axx:s.length<=60:=(qB hfew).1;rw [hfew]at HF;clear hfew
      go_wp2_with fail
      refine HF.out.mono ?_;rintro e w1⟨rfl,hb1⟩;have HB1:=Aa hb1;clear hb1 HF
      go_wp2_with fail
      have HOw:Hid (∀b,u4.ownBlock=some b->b<wr.heap.size):=Aa (λb hb=>by
       rcases HO.out.2 with⟨h1,_⟩| ⟨g,cap,cur,h1,_,h3,_⟩
       ·subst h1;cases hb
       ·subst h1;injection hb with hb;subst hb;exact(Array.getElem?_eq_some_iff.1 h3).1)
      obtain⟨wo,rfl⟩:∃wo,wo=wr:=⟨_,rfl⟩
      go_loopw [7,24](λu i wq=>∃(m:Nat)(t:List Wr),m<=s.length/\i= .int .i64 (m:Nat)/\I4 wq (λb=>u4.ownBlock=some b) u t/\GoodS t/\η wo wq)(λ_ i _=>s.length- (intOf i).toNat)
      case atStart=>exact⟨0,[],Nat.zero_le _,rfl,I4.nil,GoodS.nil,HB1.out⟩
      case round=>
       obtain⟨m,t,hm,rfl,hset,hgood,hbq⟩:=hrel;by_cases hlm:m<s.length
       ·obtain⟨hm1,hm2,Qw⟩:=Yg hlm;have hmk:=eX m O;obtain⟨b3,Arc,rfl,hbw3,r0,r1,r2⟩:=qy (Rd.below HRd.out hbq) m hlm;have hsz:=HFw.out.2 s[m] (List.getElem_mem hlm);generalize s[m]=y at*;obtain⟨W,hW,hbW, -⟩:=EZ wr 115 [.string y.key,.string y.text,.bool y.gone];have Qi:=Aa (yZ (hset.below hbW) hgood.2.2 y O O hgood.2.1);have HG:=Aa (hgood.put y);have HBW:=Aa (τ hbq hbW);have HW:=Aa hW;clear hset hgood hbq hbW hW;unfold U1 at Qi
        go_wp2_with fail
        rw [<-HW.out]
        try go_wp2_with fail
        refine Qi.out.mono ?_;rintro e w3⟨u,rfl,hO3,hB3⟩;have Ph:Hid (I4 w3 (λb=>u4.ownBlock=some b) u (JZ t y).1):=Aa (qw hO3 rfl (λb h1 _ h=>Ψ (HOw.out b h) HBW.out.size));have HB3:=Aa (τ HBW.out hB3);clear hO3 hB3 Qi
        go_wp2_with fail
        go_roundw
        case rel=>exact⟨m+1,_,O,by go_num,Ph.out,HG.out,HB3.out⟩
        case measure=>simp [intOf];omega
       ·have hmn:m=s.length:=O
        subst hmn;have Ph:=Aa hset;have HG:=Aa hgood;have hbs:w.heap.size<=wr.heap.size:=Bc HB.out.size hbq.size;have HB2:=Aa (τ HB.out hbq);have SY:=Aa (EU HO.out (Kept.of_below (r:=none) hbq) (by
         rcases HO.out.2 with⟨h1,_⟩| ⟨g,cap,cur,h1,_⟩
         ·exact .inr (by subst h1;rfl)
         ·exact .inl (by subst h1;exact λe=>nomatch e)))
        obtain⟨A7,c7,hu7⟩:=hset.slice;subst hu7;have HP2:Hid (∀q∈ps++[(.slice A7 t.length c7,t)],I4 wr (λb=>u4.ownBlock=some b) q.1 q.2/\GoodS q.2):=Aa (λq hq=>by
         rcases List.mem_append.1 hq with h| h
         ·exact⟨((HP.out q h).1.below hbq),(HP.out q h).2⟩
         ·rw [List.mem_singleton.1 h];exact⟨Ph.out,HG.out⟩)
        have qG:Hid (∀v:Value,(ps++[(v,t)]).map Prod.fst=ps.map Prod.fst++[v]):=Aa (λv=>by simp);clear hset hgood hbq HP Ph
        go_wp2_with(at_builtin;refine Ep rfl (.tmp 35) (.tmp 37) 45 rfl Tryz.Apb _ w.heap.size u4 ps.length (ps.map Prod.fst) [.slice A7 t.length c7] rfl (by exact SY.out) rfl wr.heap.size 1 rfl Θ rfl U (by intro u hu;simp at hu;subst hu;rfl) O U hbs ?_;intro g6 c6 w6 ZV O5 hK6 nC)
        have kP:=Aa ZV;have Me:=Aa O5;have U2:Hid (AP (λb=>u4.ownBlock=some b) (λb=>(Value.slice (some (Φ g6)) (ps.length+1) c6).ownBlock=some b) wr w6):=Aa ⟨⟨O5.os,O5.tape,O5.output,hK6.1,λb hb' hn=>hK6.2 b hb' (λe=>hn e.symm)⟩,λb hb=>by
         simp only [Bd,Option.some.injEq]at hb;subst hb;exact nC⟩
        clear ZV O5 hK6 nC
        go_wp2_with fail
        go_roundw
        case rel=>
         refine⟨k+1,ps++[(.slice A7 t.length c7,t)],O,O,by go_num,by simp;omega,?_,λq hq=>⟨(HP2.out q hq).1.moved U2.out,(HP2.out q hq).2⟩,HB2.out.trans Me.out⟩;rw [qG.out,List.length_append,hpk];have:=kP.out;rw [hpk]at this;exact this
        case measure=>simp [intOf];omega
  ·have hkn:k=l.length:=O
   have hx1:¬(k:Int)<(l.length:Int):=O
   have hx2:decide ((k:Int)<(l.length:Int))=false:=decide_eq_false hx1
   go_wp2_with fail
   go_ret2;obtain⟨ps',e2,e3⟩:=fin.out;refine⟨HB.out,.inr ?_⟩
   first| exact⟨_,ps',rfl,e2,e3⟩| exact⟨_,rfl,ps',e2,e3⟩
