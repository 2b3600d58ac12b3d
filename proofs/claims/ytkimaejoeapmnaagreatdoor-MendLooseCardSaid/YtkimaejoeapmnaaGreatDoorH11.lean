import Derived.Test.YtkimaejoeapmnaaGreatDoorH08
import Derived.Test.YtkimaejoeapmnaaGreatDoorH10
set_option linter.defProp false
set_option maxHeartbeats 32000000
set_option maxRecDepth 100000
open List renaming getElem?_eq_getElem->Af,length_set->Di,replicate->BC,replicate_succ->UR,set_append_right->TD,nil_append->EM,getElem?_map->BZ,length_map->BJ
open UInt64 renaming toNat_lt->Yc,ofNat->Aw,toNat_ofNat'->J5
open Go.Lib renaming hid->Aa
open Int renaming natCast_add->Ai8,natCast_mul->Gw,tdiv_eq_ediv_of_nonneg->eP
open Nat renaming zero_le->BU,mod_eq_of_lt->Gl,le_refl->Ad
open Go.World renaming block_lt_of_cell?->D6
namespace Go.Proofs.YtkimaejoeapmnaaGreatDoor
open Go.RowKit
open Go.Proofs.Tryz
def Auw{w:World}{g:Nat}{e:TypeId}{a b c d e' f i:Value}(h:CS w g e [a,b,c,d,e',f,i]):
 w.cell? (Φ g)=some a/\w.cell? (Δ g 1)=some b/\w.cell? (Δ g 2)=some c/\w.cell? (Δ g 3)=some d/\w.cell? (Δ g 4)=some e'/\w.cell? (Δ g 5)=some f/\w.cell? (Δ g 6)=some i:=
 ⟨h.cell 0,h.cell 1,h.cell 2,h.cell 3,h.cell 4,h.cell 5,h.cell 6⟩
def Aj0{P:Program}{f:FuncId}{args:Array Value}{W:World}{n:Nat}{v:Value}(h:Calls P f args (W.drewN n) λe w'=>e= .returned v/\Dr (W.drewN n) w'):
 Calls P f args (W.drewN n) λe w''=>e= .returned v/\∃m,w''=W.drewN m:=
 h.mono λ_ _⟨he,m,hm⟩=>⟨he,n+m,by rw [hm,World.drewN_drewN]⟩
def Aux{P:Program}{f:FuncId}{args:Array Value}{W:World}{n:Nat}{v:Value}(h:Calls P f args (W.drewN n) λe w'=>e= .returned v/\W.drewN n=w'):
 Calls P f args (W.drewN n) λe w''=>e= .returned v/\∃m,w''=W.drewN m:=
 h.mono λ_ _⟨he,hm⟩=>⟨he,n,hm.symm⟩
structure Ig(w:World)(d p L:Nat)(s:St)(tb hb n cT cH:Nat):Prop where
 y0:w.cell? (Φ p)=some (Az d)
 y1:w.cell? (Δ p 1)=some (.int .i64 (s.sh.lines:Nat))
 y2:w.cell? (Δ p 2)=some (.int .i64 (s.sh.BM:Nat))
 y3:w.cell? (Δ p 3)=some (.int .i64 (s.sh.table:Nat))
 y4:w.cell? (Δ p 4)=some (.int .i64 (s.sh.data:Nat))
 y5:w.cell? (Δ p 5)=some (.slice (some (Φ tb)) n cT)
 y6:w.cell? (Δ p 6)=some (.slice (some (Φ hb)) n cH)
 tk:∀i,i<n->w.cell? (Δ tb i)=some (.int .u64 (GY s i:Nat))
 hd:∀i,i<n->w.cell? (Δ hb i)=some (.int .u64 (hdN s i:Nat))
 ok:dJ L s.sh
 L1:L<=1024
 bZ:n=s.sh.BM
 Oq:s.tk.length=n
def getD_at(xs:List UInt64)(i:Nat)(h:i<xs.length):xs.getD i 0=xs[i]:=by
 rw [List.getD_eq_getElem?_getD,Af h];rfl
def E5.at{len:DY}{w:World}{d p L:Nat}{s:St}{tb hb n cT cH:Nat}{own:Nat->Prop}(h:E5 len w d p L s tb hb n cT cH own):Ig w d p L s tb hb n cT cH:=by
 obtain⟨y0,y1,y2,y3,y4,y5,y6⟩:=Auw h.box;refine⟨y0,y1,y2,y3,y4,y5,y6,λi hi=> ?_,λi hi=> ?_,FK h.shape,h.L1,h.bZ,h.Oq⟩
 ·have hl:i<s.tk.length:=by rw [h.Oq];exact hi
  rw [h.tk.cell i hl,GY,getD_at _ _ hl]
 ·have hl:i<s.hd.length:=by rw [h.mX];exact hi
  rw [h.hd.cell i hl,hdN,getD_at _ _ hl]
def Qg(s:St)(i:Nat):GY s i<18446744073709551616:=Yc _
def JV(s:St)(i:Nat):hdN s i<18446744073709551616:=Yc _
def NY(s:St)(i:Nat):CQ s i<18446744073709551616:=Nat.or_lt_two_pow (n:=64) (Qg s i) (JV s i)
section
variable{w:World}{d p L:Nat}{s:St}{tb hb n cT cH:Nat}
def Gx(h:Ig w d p L s tb hb n cT cH):Calls prog 48 #[Az p] w λe w'=>e= .returned (.bool false)/\w=w':=by
 have y0:=h.y0;clear h;go_enter func48,ntmps48;go_wp2;go_ret;exact⟨rfl,rfl⟩
def wP(h:Ig w d p L s tb hb n cT cH)(i:Nat)(hi:i<n):Calls prog 66 #[Az p,.int .i64 (i:Int)] w λe w'=>e= .returned (.int .i64 ((8*(s.sh.table/8+i):Nat):Int))/\w=w':=by
 have y3:=h.y3;have ht:=h.ok.table;have hs:=h.bZ;have hf:=h.ok.fits;have hL:=h.L1;rw [ht]at y3;rw [show 8*(s.sh.table/8+i)=128+8*i by omega];clear h;go_enter func66,ntmps66;go_wp2;go_ret;exact⟨by go_num,rfl⟩
def LD(h:Ig w d p L s tb hb n cT cH)(i:Nat)(hi:i<n):Calls prog 57 #[Az p,.int .i64 (i:Int)] w λe w'=>e= .returned (.int .u64 (CQ s i:Nat))/\Dr w w':=by
 have y5:=h.y5;have y6:=h.y6;have c1:=h.tk i hi;have c2:=h.hd i hi;have HE:=Aa (u64_or_nat (GY s i) (hdN s i) (Qg s i) (JV s i));clear h;go_enter func57,ntmps57
 go_wp2_with fail
 go_quiet(fail)
 go_wp2_with fail
 rw [HE.out];go_ret;exact⟨rfl,_,rfl⟩
def Ut(h:Ig w d p L s tb hb n cT cH)(i c a:Nat)(hi:i<n)(hc:c<4)(ha:a<=16):Calls prog 50 #[Az p,.int .i64 (i:Int),.int .i64 (c:Int),.int .i64 (a:Int)] w λe w'=>e= .returned (.int .i64 (CY s.sh i c a:Nat))/\Dr w w':=by
 have y4:=h.y4;have hs:=h.bZ;have hf:=h.ok.fits;have hL:=h.L1;have hl:=fJ c;have hm:64*Bf c*a<=256*16:=Nat.mul_le_mul O ha;have HP:Hid (((CY s.sh i c a:Nat):Int)=(s.sh.data:Int)+1024*(i:Int)+64*((Bf c:Nat):Int)*(a:Int)):=Aa (by unfold CY;rw [Ai8,Ai8,Gw,Gw,Gw];rfl);have e0:(64:Int)*((Bf c:Nat):Int)*(a:Int)=((64*Bf c*a:Nat):Int):=by rw [Gw,Gw];rfl
 have HL:=Aa (OQ c · O);generalize Bf c=lc at*;have s1:IntKind.i64.wrap (1024*(i:Int))=1024*(i:Int):=IntWalk.i64_in _ O;have s2:IntKind.i64.wrap ((s.sh.data:Int)+1024*(i:Int))=(s.sh.data:Int)+1024*(i:Int):=IntWalk.i64_in _ O;have s3:IntKind.i64.wrap (64*(lc:Int))=64*(lc:Int):=IntWalk.i64_in _ O;have s4:IntKind.i64.wrap (64*(lc:Int)*(a:Int))=64*(lc:Int)*(a:Int):=IntWalk.i64_in _ (by rw [e0];omega);have s5:IntKind.i64.wrap ((s.sh.data:Int)+1024*(i:Int)+64*(lc:Int)*(a:Int))=(s.sh.data:Int)+1024*(i:Int)+64*(lc:Int)*(a:Int):=IntWalk.i64_in _ (by rw [e0];omega);clear h e0;go_enter func50,ntmps50
 go_wp2_with fail
 go_quiet((go_at_call 96;exact Aux (HL.out _)))
 go_wp2_with fail
 rw [HP.out];go_ret;exact⟨rfl,_,rfl⟩
def Ig.dr{w':World}(h:Ig w d p L s tb hb n cT cH)(k:Dr w w'):Ig w' d p L s tb hb n cT cH:=by
 obtain⟨q,rfl⟩:=k;exact⟨h.y0,h.y1,h.y2,h.y3,h.y4,h.y5,h.y6,h.tk,h.hd,h.ok,h.L1,h.bZ,h.Oq⟩
def IJ(s:St)(off:Int):Value:=match Ia s off with
 | some (i,a)=> .tuple #[.int .i64 (i:Int),.int .i64 (a:Int),.bool true]
 | none=> .tuple #[.int .i64 0,.int .i64 0,.bool false]
def IM(h:Ig w d p L s tb hb n cT cH)(off:Int)(ho: -9223372036854775808<=off/\off<=9223372036854775807):Calls prog 59 #[Az p,.int .i64 off] w λe w'=>e= .returned (IJ s off)/\Dr w w':=by
 have y4:=h.y4;have y5:=h.y5;have hs:=h.bZ;have hn:=h.Oq;have hf:=h.ok.fits;have hL:=h.L1;have hd:=Dr.refl w;have H:=Aa h;by_cases h1:off<(s.sh.data:Int)
 ·have t1:decide (off<(s.sh.data:Int))=true:=decide_eq_true h1;have HV:Hid (IJ s off= .tuple #[.int .i64 0,.int .i64 0,.bool false]):=Aa (by rw [IJ,Ia,if_pos (.inl h1)]);clear h h1 hs hn hf hL;go_enter func59,ntmps59
  go_wp2_with fail
  go_quiet(fail)
  go_wp2_with fail
  go_ret3
  exact⟨by rw [HV.out];rfl,_,rfl⟩
 ·have t1:decide (off<(s.sh.data:Int))=false:=decide_eq_false h1;have s1:IntKind.i64.wrap (1024*(n:Int))=1024*(n:Int):=IntWalk.i64_in _ O;have s2:IntKind.i64.wrap ((s.sh.data:Int)+1024*(n:Int))=(s.sh.data:Int)+1024*(n:Int):=IntWalk.i64_in _ O;by_cases h2:(s.sh.data:Int)+1024*(n:Int)<=off
  ·have t2:decide ((s.sh.data:Int)+1024*(n:Int)<=off)=true:=decide_eq_true h2;have HV:Hid (IJ s off= .tuple #[.int .i64 0,.int .i64 0,.bool false]):=Aa (by rw [IJ,Ia,if_pos (.inr (by rw [hn];omega))]);clear h h1 h2 hs hn hf hL;go_enter func59,ntmps59
   go_wp2_with fail
   go_quiet(fail)
   go_wp2_with fail
   go_ret3
   exact⟨by rw [HV.out];rfl,_,rfl⟩
  ·have t2:decide ((s.sh.data:Int)+1024*(n:Int)<=off)=false:=decide_eq_false h2;have HF:Hid (Ia s off=if Bf (Bg (CQ s ((off.toNat-s.sh.data)/1024)))=0\/(off.toNat-s.sh.data)%1024%(64*Bf (Bg (CQ s ((off.toNat-s.sh.data)/1024))))≠0 then none else
    some ((off.toNat-s.sh.data)/1024,(off.toNat-s.sh.data)%1024/(64*Bf (Bg (CQ s ((off.toNat-s.sh.data)/1024)))))):=Aa (by rw [Ia,if_neg (by rw [hn];omega)])
   obtain⟨o,ho2,e9⟩:∃o:Nat,off.toNat-s.sh.data=o/\off=(s.sh.data:Int)+(o:Int):=⟨off.toNat-s.sh.data,rfl,O⟩;rw [ho2]at HF;have ho3:o<1024*n:=O
   have e1:IntKind.i64.wrap (off- (s.sh.data:Int))=(o:Int):=by rw [IntWalk.i64_in _ O];omega
   have e2:(o:Int).tdiv 1024=((o/1024:Nat):Int):=by rw [eP O];omega
   have e3:(o:Int).tmod 1024=((o%1024:Nat):Int):=by rw [Int.tmod_eq_emod_of_nonneg O];omega
   have hi:o/1024<n:=O
   have hr:o%1024<1024:=Nat.mod_lt _ U;generalize o/1024=i at*;generalize o%1024=r at*;have e4:IntKind.i64.wrap (i:Int)=(i:Int):=IntWalk.i64_in _ O;have e5:IntKind.i64.wrap (r:Int)=(r:Int):=IntWalk.i64_in _ O;have hcl:=NK (CQ s i);have hll:=fJ (Bg (CQ s i));clear h h1 h2 ho2 e9 hs hn hf hL;by_cases c1:Bf (Bg (CQ s i))=0
   ·have HV:Hid (IJ s off= .tuple #[.int .i64 0,.int .i64 0,.bool false]):=Aa (by rw [IJ,HF.out,if_pos (.inl c1)]);have HL:=Aa (OQ (Bg (CQ s i)) · O);rw [c1]at HL;clear c1 hll HF;go_enter func59,ntmps59
    go_wp2_with fail
    go_quiet(fail)
    go_wp2_with fail
    go_quiet(fail)
    go_wp2_with fail
    refine(LD (H.out.dr (Dr.one w _)) i hi).mono ?_;rintro e w1⟨rfl,hd1⟩;replace hd1:=(Dr.one w _).trans hd1
    go_wp2_with fail
    refine(Hq (CQ s i) _ (NY s i)).mono ?_;rintro e w2⟨rfl,hd2⟩;replace hd2:=hd1.trans hd2
    go_wp2_with fail
    refine(HL.out _).mono ?_;rintro e w3⟨rfl,rfl⟩
    go_wp2_with fail
    go_ret3
    exact⟨by rw [HV.out];rfl,hd2⟩
   ·have HL:=Aa (OQ (Bg (CQ s i)) · O);have q1:((64:Int)*((Bf (Bg (CQ s i)):Nat):Int)==0)=false:=by rw [beq_eq_false_iff_ne];omega
    have hm:(r:Int)%(64*((Bf (Bg (CQ s i)):Nat):Int))=((r%(64*Bf (Bg (CQ s i))):Nat):Int):=by rw [Int.natCast_emod,Gw];rfl
    by_cases c2:r%(64*Bf (Bg (CQ s i)))=0
    ·have HV:Hid (IJ s off= .tuple #[.int .i64 (i:Int),.int .i64 ((r/(64*Bf (Bg (CQ s i))):Nat):Int),.bool true]):=Aa (by rw [IJ,HF.out,if_neg (by rintro(h| h);exact c1 h;exact h c2)]);have q2:((r:Int)%(64*((Bf (Bg (CQ s i)):Nat):Int))!=0)=false:=by rw [hm,c2];rfl
     have q3:(r:Int).tdiv (64*((Bf (Bg (CQ s i)):Nat):Int))=((r/(64*Bf (Bg (CQ s i))):Nat):Int):=by rw [eP O,Int.natCast_ediv,Gw];rfl
     have hq:r/(64*Bf (Bg (CQ s i)))<=r:=Nat.div_le_self _ _;generalize r/(64*Bf (Bg (CQ s i)))=qt at*;have q4:IntKind.i64.wrap (qt:Int)=(qt:Int):=IntWalk.i64_in _ O;generalize Bf (Bg (CQ s i))=lc at*;clear hm HF c2;go_enter func59,ntmps59
     go_wp2_with fail
     go_quiet(fail)
     go_wp2_with fail
     go_quiet(fail)
     go_wp2_with fail
     refine(LD (H.out.dr (Dr.one w _)) i hi).mono ?_;rintro e w1⟨rfl,hd1⟩;replace hd1:=(Dr.one w _).trans hd1
     go_wp2_with fail
     refine(Hq (CQ s i) _ (NY s i)).mono ?_;rintro e w2⟨rfl,hd2⟩;replace hd2:=hd1.trans hd2
     go_wp2_with fail
     refine(HL.out _).mono ?_;rintro e w3⟨rfl,rfl⟩
     go_wp2_with fail
     go_quiet(fail)
     go_wp2_with fail
     go_ret3
     exact⟨by rw [HV.out];rfl,hd2.trans (Dr.one _ _)⟩
    ·have HV:Hid (IJ s off= .tuple #[.int .i64 0,.int .i64 0,.bool false]):=Aa (by rw [IJ,HF.out,if_pos (.inr c2)]);have q2:((r:Int)%(64*((Bf (Bg (CQ s i)):Nat):Int))!=0)=true:=by rw [hm,bne_iff_ne];omega
     generalize Bf (Bg (CQ s i))=lc at*;clear hm HF c2;go_enter func59,ntmps59
     go_wp2_with fail
     go_quiet(fail)
     go_wp2_with fail
     go_quiet(fail)
     go_wp2_with fail
     refine(LD (H.out.dr (Dr.one w _)) i hi).mono ?_;rintro e w1⟨rfl,hd1⟩;replace hd1:=(Dr.one w _).trans hd1
     go_wp2_with fail
     refine(Hq (CQ s i) _ (NY s i)).mono ?_;rintro e w2⟨rfl,hd2⟩;replace hd2:=hd1.trans hd2
     go_wp2_with fail
     refine(HL.out _).mono ?_;rintro e w3⟨rfl,rfl⟩
     go_wp2_with fail
     go_ret3
     exact⟨by rw [HV.out];rfl,hd2⟩
end
inductive Pw where
 | up(lf:Int)
 | down(P:(Nat->UInt64)->Prop)
def Pw.mode:Pw->DY
 | .up lf=> .up (MU lf)
 | .down P=> .down P
structure Ms where
 pw:Pw
 s:St
def Y9(q:Ms)(N:Nat)(ws2:Nat->UInt64):Ms×Int:=
 match q.pw with
 | .up lf=>if lf<0\/(N:Int)<=lf then(⟨if Yo lf N=0 then .down (λws'=>ws'=ws2)else .up (Yo lf N),{q.s with ws:=ws2}⟩,0)else(⟨.down (Half q.s.ws ws2),{q.s with ws:=ws2}⟩,12)
 | .down P=>(⟨.down P,{q.s with ws:=ws2}⟩,12)
abbrev QW(w:World)(d p L:Nat)(q:Ms)(F:Nat->Prop):Prop:=Ew q.pw.mode w d p L q.s F
def Arm(q:Ms)(N:Nat)(ws2:Nat->UInt64):(Y9 q N ws2).1.s={q.s with ws:=ws2}:=by
 unfold Y9;cases q.pw with
 | up lf=>simp only;split<;>rfl
 | down P=>rfl
def YA(s:St)(N:Nat)(ws2:Nat->UInt64):Y9 ⟨.up (-1),s⟩ N ws2=(⟨.up (-1),{s with ws:=ws2}⟩,0):=by
 unfold Y9;simp only;rw [if_pos (.inl U),Ajs,if_neg U]
section
variable{w w':World}{d p L:Nat}{s:St}{F:Nat->Prop}{q:Ms}
def Ew.Af6{P:(Nat->UInt64)->Prop}(h:Ew (.down P) w d p L s F)(ws2:Nat->UInt64):Ew (.down P) w d p L {s with ws:=ws2} F:=by
 obtain⟨tb,hb,n,cT,cH,own,h,hF⟩:=h;exact⟨tb,hb,n,cT,cH,own,⟨h.dev,h.L0,h.L1,h.shape,h.box,h.tk,h.hd,h.Oq,h.mX,h.bZ,h.cT,h.cH,h.dp,h.dt,h.dh,h.pt,h.ph,h.th,h.tabs,h.g1,h.g2⟩,hF⟩
def Vy.blk{P:(Nat->UInt64)->Prop}{own:Nat->Prop}(h:Vy w d L P own):∃g v2 v3,CS w d 78 [.slice (some (Φ g)) L L,.bool true,v2,v3]:=by
 obtain⟨m,ws,mark,h1,⟨g,hb,hr,_⟩,_⟩:=h;obtain⟨st,hbx⟩:=hr.box;rw [decide_eq_true h1]at hbx;exact⟨g,_,_,hbx⟩
def E5.Arn {lf : Int} {N : Nat} {tb hb n cT cH g : Nat} {own : Nat -> Prop} {hb0 : Nat -> Option Nat} {j : Nat} {xs : List UInt64} {c : Int} (h : E5 (.up (MU lf)) w d p L s tb hb n cT cH own) (hF : ∀ b, F b <-> (own b \/ b = p \/ b = tb \/ b = hb)) (ho : ∀ b, own b <-> Dh d L g hb0 b)
    (hd : Wrote lf N w d L g hb0 s.ws j xs c w') : c = (Y9 ⟨.up lf, s⟩ N (BO s.ws j xs)).2 /\ ∃ F', QW w' d p L (Y9 ⟨.up lf, s⟩ N (BO s.ws j xs)).1 F' /\ AP F F' w w' := by
  have hlf := h.dev.2
  change lf ≠ 0 at hlf
  rcases hd with ⟨h1, h2, h3⟩ | ⟨h1, h2, h3, len, Y5, mark, h4, h5, h6, h7, h8⟩
  · have e : Y9 ⟨.up lf, s⟩ N (BO s.ws j xs) = (⟨if Yo lf N = 0 then .down (λws' => ws' = BO s.ws j xs) else .up (Yo lf N), { s with ws := BO s.ws j xs }⟩, 0) := by
      unfold Y9; simp only; rw [if_pos h2]
    rw [e]
    refine ⟨h1, ?_⟩
    by_cases hz : Yo lf N = 0
    · obtain ⟨F', hs, hm⟩ := h.cut (P := λws' => ws' = BO s.ws j xs) hF ho h3 hz (λ_ => BU _) (λ_ _ h => nomatch h) (λpick _ => by funext q; unfold O7; rw [show ((MU (Yo lf N)).Nk (q / 8)) = [] from rfl, List.drop_nil]; rfl) (BO s.ws j xs)
      refine ⟨F', ?_, hm⟩
      unfold QW
      simp only [if_pos hz]
      exact hs
    · obtain ⟨F', hs, hm⟩ := h.wrote hF ho h3 hz
      refine ⟨F', ?_, hm⟩
      unfold QW
      simp only [if_neg hz]
      exact hs
  · have e : Y9 ⟨.up lf, s⟩ N (BO s.ws j xs) = (⟨.down (Half s.ws (BO s.ws j xs)), { s with ws := BO s.ws j xs }⟩, 12) := by
      unfold Y9; simp only; rw [if_neg O]
    rw [e]
    obtain ⟨F', hs, hm⟩ := h.cut (P := Half s.ws (BO s.ws j xs)) hF ho h8 h4 h5 (λi c hc => by
      obtain ⟨t, t1, t2, _⟩ := h6 i c hc
      exact ⟨t, t1, t2⟩) (λpick _ => ZF h6 h7 pick) (BO s.ws j xs)
    exact ⟨h1, F', hs, hm⟩
def V5(h:QW w d p L q F)(j:Nat)(x:UInt64)(hj:j<8*L):
 Calls prog 95 #[Az d,.int .i64 ((8*j:Nat):Int),.int .u64 (x.toNat:Int)] w λe w'=>e= .returned (.int .i64 (Y9 q 3 (FN q.s.ws j x)).2)/\
  ∃F',QW w' d p L (Y9 q 3 (FN q.s.ws j x)).1 F'/\AP F F' w w':=by
 obtain⟨pw,s⟩:=q;have hs:=h;obtain⟨tb,hb,n,cT,cH,own,h,hF⟩:=h;cases pw with
 | up lf=>
   obtain⟨⟨g,hb0,hr,ho⟩,hu⟩:=h.dev;refine(pg lf d L g hb0 s.ws j x w h.L0 h.L1 hr hj).mono ?_;rintro e w'⟨c,rfl,hd⟩;have:=h.Arn hF ho hd;rw [fP]at this;exact⟨by rw [this.1],this.2⟩
 | down P=>
   obtain⟨g,v2,v3,hB⟩:=Vy.blk h.dev;refine(Af1 d L g j x v2 v3 own w h.L0 h.L1 hB).mono ?_;rintro e w'⟨rfl,hb⟩;exact⟨rfl,F,Ew.Af6 (Ew.below hs hb) _,AP.of_below hb⟩
def pM(h:QW w d p L q F)(j n c:Nat)(A:Option Addr)(xs:List UInt64)(hj:j+n<=8*L)(hn0:0<n)(hx:Ws w A n xs):
 Calls prog 139 #[Az d,.int .i64 ((8*j:Nat):Int),.slice A n c] w λe w'=>e= .returned (.int .i64 (Y9 q (n+((j+n-1)/8-j/8+1)+1) (BO q.s.ws j xs)).2)/\
  ∃F',QW w' d p L (Y9 q (n+((j+n-1)/8-j/8+1)+1) (BO q.s.ws j xs)).1 F'/\AP F F' w w':=by
 obtain⟨pw,s⟩:=q;have hs:=h;obtain⟨tb,hb,n',cT,cH,own,h,hF⟩:=h;cases pw with
 | up lf=>
   obtain⟨⟨g,hb0,hr,ho⟩,hu⟩:=h.dev;refine(RF lf d L g hb0 s.ws j n c A xs w h.L0 h.L1 hr hj hn0 hx).mono ?_;rintro e w'⟨c,rfl,hd⟩;have:=h.Arn hF ho hd;exact⟨by rw [this.1],this.2⟩
 | down P=>
   obtain⟨g,v2,v3,hB⟩:=Vy.blk h.dev;refine(pz d L g j n c A xs v2 v3 w h.L0 h.L1 hB hj hn0 hx).mono ?_;rintro e w'⟨rfl,hb⟩;exact⟨rfl,F,Ew.Af6 (Ew.below hs hb) _,AP.of_below hb⟩
end
def P5(q:Ms)(i:Nat)(x:UInt64):Ms×Int:=
 match Y9 q 3 (FN q.s.ws (q.s.sh.table/8+i) x)with
 | (r,e)=>if e=0 then(⟨r.pw,Zb q.s i x⟩,0)else(r,e)
def QN(q:Ms)(off:Int):Ms×Int:=
 match Ia q.s off with
 | none=>(q,7)
 | some (i,a)=>if EP (hdN q.s i) a then
  match P5 q i (Aw (Gt (GY q.s i) (Bg (hdN q.s i)) a).1)with
  | (r,e)=>if e=0 then(⟨r.pw,{r.s with hd:=q.s.hd.set i (Aw (Eh (hdN q.s i) a).1)}⟩,0)else(r,e)
   else(q,7)
def Ji(q:Ms)(off:Int):Ms×Int:=
 match Ia q.s off with
 | none=>(q,7)
 | some (i,a)=>
   if(Eh (hdN q.s i) a).2 then(⟨q.pw,{q.s with hd:=q.s.hd.set i (Aw (Eh (hdN q.s i) a).1)}⟩,0)
   else if(Eh (GY q.s i) a).2 then P5 q i (Aw (Eh (GY q.s i) a).1)
   else(q,7)
def fV(s:St)(i:Nat)(x:UInt64):P5 ⟨.up (-1),s⟩ i x=(⟨.up (-1),Zb s i x⟩,0):=by
 unfold P5;rw [YA];rfl
def Af7{q r:Ms}{i:Nat}{x:UInt64}(h:P5 q i x=(r,0)):r.s=Zb q.s i x:=by
 unfold P5 at h;split at h;split at h
 ·injection h with h _;rw [<-h]
 ·rename_i h0;injection h with _ h;exact absurd h h0
def fZ(s:St)(off:Int):QN ⟨.up (-1),s⟩ off=(⟨.up (-1),(Ib s off).1⟩,(Ib s off).2):=by
 unfold QN Ib;cases Ia s off with
 | none=>rfl
 | some ia=>
   obtain⟨i,a⟩:=ia;simp only [fV];cases EP (hdN s i) a<;>rfl
def Wx(s:St)(off:Int):Ji ⟨.up (-1),s⟩ off=(⟨.up (-1),(IE s off).1⟩,(IE s off).2):=by
 unfold Ji IE;cases Ia s off with
 | none=>rfl
 | some ia=>
   obtain⟨i,a⟩:=ia;simp only [fV];cases(Eh (hdN s i) a).2
   ·cases(Eh (GY s i) a).2<;>rfl
   ·rfl
def NZ{s:St}{off:Int}{i a:Nat}(h:Ia s off=some (i,a)):i<s.tk.length/\a<16/\off=((CY s.sh i (Bg (CQ s i)) a:Nat):Int)/\1<=Bf (Bg (CQ s i))/\Bf (Bg (CQ s i))*a+Bf (Bg (CQ s i))<=16:=by
 unfold Ia at h;split at h
 ·cases h
 ·rename_i h1;obtain⟨o,ho⟩:∃o,off.toNat-s.sh.data=o:=⟨_,rfl⟩;rw [ho]at h;have hoff:off=((s.sh.data+o:Nat):Int):=O
  have ho2:o<1024*s.tk.length:=O
  split at h
  ·cases h
  ·rename_i h2;injection h with h
   injection h with hi ha
   rw [hi]at h2 ha;have hl1:Bf (Bg (CQ s i))≠0:=λe=>h2 (.inl e)
   have hm:o%1024%(64*Bf (Bg (CQ s i)))=0:=Classical.byContradiction λe=>h2 (.inr e)
   have hlc:Bf (Bg (CQ s i))=1\/Bf (Bg (CQ s i))=4:=by
    unfold Bf at hl1⊢;split at hl1<;>simp_all
   unfold CY;rcases hlc with e| e
   ·rw [e]at hm ha⊢;refine⟨O,O,O,O,O⟩
   ·rw [e]at hm ha⊢;refine⟨O,O,O,O,O⟩
section
variable{w:World}{d p L:Nat}{s:St}{tb hb n cT cH:Nat}{own:Nat->Prop}
def ZL(h:Ig w d p L s tb hb n cT cH)(off:Int)(ho: -9223372036854775808<=off/\off<=9223372036854775807):Calls prog 83 #[Az p,.int .i64 off] w λe w'=>e= .returned (.int .i64 (D7 s off:Nat))/\Dr w w':=by
 have H:=Aa h;cases hf:Ia s off with
 | none=>
   have HV:Hid (D7 s off=0):=Aa (by rw [D7,hf]);have HF:Hid (IJ s off= .tuple #[.int .i64 0,.int .i64 0,.bool false]):=Aa (by rw [IJ,hf]);clear h hf;go_enter func83,ntmps83
   go_wp2_with fail
   refine(Gx H.out).mono ?_;rintro e w'⟨rfl,rfl⟩
   go_wp2_with fail
   refine(IM H.out off ho).mono ?_;rintro e w1⟨rfl,hd⟩;rw [HF.out]
   go_wp2_with fail
   go_ret;exact⟨by rw [HV.out];rfl,hd⟩
 | some ia=>
   obtain⟨i,a⟩:=ia;obtain⟨hi,ha, -⟩:=NZ hf;rw [h.Oq]at hi;have HF:Hid (IJ s off= .tuple #[.int .i64 (i:Int),.int .i64 (a:Int),.bool true]):=Aa (by rw [IJ,hf]);have HH:=Aa (RD (GY s i) a · (Qg s i) O);have HC:=Aa (Hq (GY s i) · (Qg s i));have hv:D7 s off=if EP (GY s i) a then Bg (GY s i)else 0:=by rw [D7,hf]
   cases hh:EP (GY s i) a
   ·rw [hh]at hv HH;have HV:=Aa hv;clear h hf hv hh;go_enter func83,ntmps83
    go_wp2_with fail
    refine(Gx H.out).mono ?_;rintro e w'⟨rfl,rfl⟩
    go_wp2_with fail
    refine(IM H.out off ho).mono ?_;rintro e w1⟨rfl,hd⟩;rw [HF.out];have h1:=H.out.dr hd;have y5:=h1.y5;have c1:=h1.tk i hi;clear h1
    go_wp2_with fail
    refine(HH.out _).mono ?_;rintro e w2⟨rfl,hd2⟩;clear y5 c1
    go_wp2_with fail
    go_ret;exact⟨by rw [HV.out];rfl,hd.trans hd2⟩
   ·rw [hh]at hv HH;have HV:=Aa hv;clear h hf hv hh;go_enter func83,ntmps83
    go_wp2_with fail
    refine(Gx H.out).mono ?_;rintro e w'⟨rfl,rfl⟩
    go_wp2_with fail
    refine(IM H.out off ho).mono ?_;rintro e w1⟨rfl,hd⟩;rw [HF.out];have h1:=H.out.dr hd;have y5:=h1.y5;have c1:=h1.tk i hi;clear h1
    go_wp2_with fail
    refine(HH.out _).mono ?_;rintro e w2⟨rfl,hd2⟩;clear y5 c1;replace hd:=hd.trans hd2;have h1:=H.out.dr hd;have y5:=h1.y5;have c1:=h1.tk i hi;clear h1
    go_wp2_with fail
    refine(HC.out _).mono ?_;rintro e w3⟨rfl,hd3⟩;clear y5 c1
    go_wp2_with fail
    go_ret;exact⟨by rw [HV.out];rfl,hd.trans hd3⟩
def Tabs.set{w:World}(h:Tabs w){b:Nat}(h1:b≠0)(h2:b≠1)(k:Nat)(u:Value):Tabs (w.setCell (Δ b k) u):=
 h.keep (Below.heap_setCell w (Δ b k) u _ (λe=>h1 e.symm)) (Below.heap_setCell w (Δ b k) u _ (λe=>h2 e.symm))
def E5.Aro{len:DY}(h:E5 len w d p L s tb hb n cT cH own)(i:Nat)(x:UInt64):E5 len (w.setCell (Δ tb i) (wv x)) d p L {s with tk:=s.tk.set i x} tb hb n cT cH own:=by
 have keep:∀b,b≠tb->(w.setCell (Δ tb i) (wv x)).heap[b]? =w.heap[b]? :=λb hb'=>Below.heap_setCell w (Δ tb i) _ b hb'
 exact⟨h.dev.touch ((Touch.refl (λb=>b=tb) w).setCell (p:=Δ tb i) (.inl rfl) _) (λb hb' e=>h.dt (e▸hb')),h.L0,h.L1,h.shape,(keep p h.pt).trans h.box,h.tk.set i x,h.hd.keep (keep hb (λe=>h.th e.symm)),
  by rw [Di];exact h.Oq,h.mX,h.bZ,h.cT,h.cH,h.dp,h.dt,h.dh,h.pt,h.ph,h.th,h.tabs.set (λe=>h.g1 (.inr (.inr (.inl e.symm)))) (λe=>h.g2 (.inr (.inr (.inl e.symm)))) _ _,h.g1,h.g2⟩
def E5.Af8{len:DY}(h:E5 len w d p L s tb hb n cT cH own)(i:Nat)(x:UInt64):E5 len (w.setCell (Δ hb i) (wv x)) d p L {s with hd:=s.hd.set i x} tb hb n cT cH own:=by
 have keep:∀b,b≠hb->(w.setCell (Δ hb i) (wv x)).heap[b]? =w.heap[b]? :=λb hb'=>Below.heap_setCell w (Δ hb i) _ b hb'
 exact⟨h.dev.touch ((Touch.refl (λb=>b=hb) w).setCell (p:=Δ hb i) (.inl rfl) _) (λb hb' e=>h.dh (e▸hb')),h.L0,h.L1,h.shape,(keep p h.ph).trans h.box,h.tk.keep (keep tb h.th),h.hd.set i x,
  h.Oq,by rw [Di];exact h.mX,h.bZ,h.cT,h.cH,h.dp,h.dt,h.dh,h.pt,h.ph,h.th,h.tabs.set (λe=>h.g1 (.inr (.inr (.inr e.symm)))) (λe=>h.g2 (.inr (.inr (.inr e.symm)))) _ _,h.g1,h.g2⟩
def Dr.drew(w:World):Dr w w.drew:=⟨1,rfl⟩
def Ew.dr{len:DY}{F:Nat->Prop}{w':World}(h:Ew len w d p L s F)(k:Dr w w'):Ew len w' d p L s F:=h.below (k.below _)
def AP.dr{F F':Nat->Prop}{w w' w'':World}(h:AP F F' w w')(k:Dr w' w''):AP F F' w w'':=h.below (k.below _)
def jW(x:Nat)(hx:x<18446744073709551616):wv (Aw x)= .int .u64 (x:Int):=by
 simp only [wv,J5];rw [Gl hx]
def gm{F:Nat->Prop}{q:Ms}(h:QW w d p L q F)(i x:Nat)(hi:i<q.s.tk.length)(hx:x<18446744073709551616):
 Calls prog 61 #[Az p,.int .i64 (i:Int),.int .u64 (x:Int)] w λe w'=>e= .returned (.int .i64 (P5 q i (Aw x)).2)/\∃F',QW w' d p L (P5 q i (Aw x)).1 F'/\AP F F' w w':=by
 have H:=Aa h;obtain⟨tb,hb,n,cT,cH,own,hr,hF⟩:=h;have h1:=hr.at;have hin:i<n:=by rw [<-h1.Oq];exact hi
 have y0:=h1.y0;have HE:=Aa (λW(hW:Dr w W)=>wP (h1.dr hW) i hin);have hent:q.s.sh.table/8+i<8*L:=by
  have:=h1.ok.table;have:=h1.ok.fits;have:=h1.ok.Le;have:=h1.bZ;omega
 have HP:=λW(hW:Dr w W)=>V5 (H.out.dr hW) (q.s.sh.table/8+i) (Aw x) hent
 rw [show((Aw x).toNat:Int)=(x:Int)by rw [J5,Gl hx]]at HP;have hsw:=Arm q 3 (FN q.s.ws (q.s.sh.table/8+i) (Aw x));obtain⟨⟨r,c⟩,hrc⟩:∃r,Y9 q 3 (FN q.s.ws (q.s.sh.table/8+i) (Aw x))=r:=⟨_,rfl⟩;have HV:Hid (P5 q i (Aw x)=if c=0 then(⟨r.pw,Zb q.s i (Aw x)⟩,0)else(r,c)):=Aa (by unfold P5;rw [hrc]);rw [hrc]at HP hsw;simp only at hsw;have HP:=Aa HP;have HSw:=Aa hsw;clear h1 hr hF hent hrc hsw;go_enter func61,ntmps61
 go_wp2_with fail
 go_region_with(first
  | (go_at_call 66;go_loud(refine(HE.out _ (Dr.drew _)).mono ?_;rintro e w'⟨rfl,rfl⟩))
  | (go_at_call 95;go_loud(refine(HP.out _ (Dr.drew _)).mono ?_;rintro e w1⟨rfl,F1,hs1,hm1⟩)))
 all_goals(replace hm1:=(AP.of_below ((Dr.drew w).below _)).trans hm1)
 all_goals(clear y0 HE HP)
 all_goals(by_cases hc0:c=0)
 all_goals first
  | (subst hc0
     rw [if_pos rfl]at HV;obtain⟨tb1,hb1,n1,cT1,cH1,Af9,hr1,hF1⟩:=hs1;have h1:=hr1.at;have hin1:i<n1:=by rw [<-h1.Oq,HSw.out];exact hi
     have y5:=h1.y5;have c1:=h1.tk i hin1;have f1:=hr1.tk.frozen i;have HR:=Aa (hr1.Aro i (Aw x));rw [jW x hx,HSw.out]at HR;have HM:=Aa (hm1.set (p:=Δ tb1 i) (hm1.own tb1 ((hF1 tb1).2 (.inr (.inr (.inl rfl))))) (.int .u64 (x:Int)));clear h1 hr1 hm1
     go_wp2_with fail
     go_ret;rw [HV.out];exact⟨rfl,F1,⟨tb1,hb1,n1,cT1,cH1,Af9,HR.out,hF1⟩,HM.out⟩)
  | (rw [if_neg hc0]at HV
     have t9:(c==0)=false:=by rw [beq_eq_false_iff_ne];exact hc0
     have HS1:=Aa hs1;have zY:=Aa hm1;clear hs1 hm1 hc0
     go_wp2_with fail
     go_ret;rw [HV.out];exact⟨rfl,F1,HS1.out,zY.out⟩)
end
section
variable{w:World}{d p L:Nat}{s:St}{tb hb n cT cH:Nat}{own:Nat->Prop}{F:Nat->Prop}
def E5.dr{len:DY}{w':World}(h:E5 len w d p L s tb hb n cT cH own)(k:Dr w w'):E5 len w' d p L s tb hb n cT cH own:=by
 obtain⟨q,rfl⟩:=k;exact⟨h.dev.below ((Dr.one w q).below _),h.L0,h.L1,h.shape,h.box,h.tk,h.hd,h.Oq,h.mX,h.bZ,h.cT,h.cH,h.dp,h.dt,h.dh,h.pt,h.ph,h.th,h.tabs.below ((Dr.one w q).below _),h.g1,h.g2⟩
def E5.held{m:DY}(h:E5 m w d p L s tb hb n cT cH own)(hF:∀b,F b<->(own b\/b=p\/b=tb\/b=hb))(i x:Nat)(hx:x<18446744073709551616){W:World}(k:Dr w W):
 Ew m (W.setCell (Δ hb i) (.int .u64 (x:Int))) d p L {s with hd:=s.hd.set i (Aw x)} F/\AP F F w (W.setCell (Δ hb i) (.int .u64 (x:Int))):=by
 have h1:=(h.dr k).Af8 i (Aw x);rw [jW x hx]at h1;exact⟨⟨tb,hb,n,cT,cH,own,h1,hF⟩,((AP.refl F w).dr k).set (p:=Δ hb i) (.inl ((hF hb).2 (.inr (.inr (.inr rfl))))) _⟩
def ZM{q:Ms}(h:QW w d p L q F)(off:Int)(ho: -9223372036854775808<=off/\off<=9223372036854775807):
 Calls prog 19 #[Az p,.int .i64 off] w λe w'=>e= .returned (.int .i64 (QN q off).2)/\∃F',QW w' d p L (QN q off).1 F'/\AP F F' w w':=by
 obtain⟨pw,s⟩:=q;have ht:=h;obtain⟨tb,hb,n,cT,cH,own,hr,hF⟩:=h;have HA:=Aa hr.at;have hn:=hr.Oq;cases hf:Ia s off with
 | none=>
   have HV:Hid (QN ⟨pw,s⟩ off=(⟨pw,s⟩,7)):=Aa (by rw [QN,hf]);have HF:Hid (IJ s off= .tuple #[.int .i64 0,.int .i64 0,.bool false]):=Aa (by rw [IJ,hf]);have HS:=Aa ht;clear ht hf hn hr hF;go_enter func19,ntmps19
   go_wp2_with fail
   refine(Gx HA.out).mono ?_;rintro e w'⟨rfl,rfl⟩
   go_wp2_with fail
   refine(IM HA.out off ho).mono ?_;rintro e w1⟨rfl,hd⟩;rw [HF.out]
   go_wp2_with fail
   go_ret;rw [HV.out];exact⟨rfl,F,HS.out.dr hd,(AP.refl _ _).dr hd⟩
 | some ia=>
   obtain⟨i,a⟩:=ia;obtain⟨hi,hx, -⟩:=NZ hf;have hil:=hi;rw [hn]at hi;have HF:Hid (IJ s off= .tuple #[.int .i64 (i:Int),.int .i64 (a:Int),.bool true]):=Aa (by rw [IJ,hf]);have HS:=Aa ht;have HR:=Aa hr;have HFF:=Aa hF;have HH:=Aa (RD (hdN s i) a · (JV s i) O);cases hh:EP (hdN s i) a
   ·rw [hh]at HH;have HV:Hid (QN ⟨pw,s⟩ off=(⟨pw,s⟩,7)):=Aa (by rw [QN,hf];simp [hh]);clear ht hf hn hr hF hh;go_enter func19,ntmps19
    go_wp2_with fail
    refine(Gx HA.out).mono ?_;rintro e w'⟨rfl,rfl⟩
    go_wp2_with fail
    refine(IM HA.out off ho).mono ?_;rintro e w1⟨rfl,hd⟩;rw [HF.out];have ha:=HA.out.dr hd;have y5:=ha.y5;have y6:=ha.y6;have c1:=ha.tk i hi;have c2:=ha.hd i hi;clear ha
    go_wp2_with fail
    refine(HH.out _).mono ?_;rintro e w'⟨rfl,hd'⟩;replace hd:=hd.trans hd';clear y5 y6 c1 c2 hd'
    go_wp2_with fail
    go_ret;rw [HV.out];exact⟨rfl,F,HS.out.dr hd,(AP.refl _ _).dr hd⟩
   ·rw [hh]at HH;obtain⟨x,hx1⟩:∃x,(Gt (GY s i) (Bg (hdN s i)) a).1=x:=⟨_,rfl⟩;obtain⟨y,hy1⟩:∃y,(Eh (hdN s i) a).1=y:=⟨_,rfl⟩;have hxl:x<18446744073709551616:=by rw [<-hx1];exact ZH _ _ _ (Qg s i) O
    have hyl:y<18446744073709551616:=by rw [<-hy1];exact V3 _ _ (JV s i) O
    have hok:=λ(r:Ms)(h:P5 ⟨pw,s⟩ i (Aw x)=(r,0))=>Af7 h
    obtain⟨⟨r,c⟩,hrc⟩:∃r,P5 ⟨pw,s⟩ i (Aw x)=r:=⟨_,rfl⟩;have HV:Hid (QN ⟨pw,s⟩ off=if c=0 then(⟨r.pw,{r.s with hd:=s.hd.set i (Aw y)}⟩,0)else(r,c)):=Aa (by rw [QN,hf];simp [hh,hx1,hy1,hrc]);have HC:=Aa (Hq (hdN s i) · (JV s i));have HT:=Aa (take_any (GY s i) (Bg (hdN s i)) a · (Qg s i) (NK _) O);have HD:=Aa (V4 (hdN s i) a · (JV s i) O);rw [hx1]at HT;rw [hy1]at HD;have HP:=λW(k:Dr w W)=>gm (q:=⟨pw,s⟩) (ht.dr k) i x hil hxl
    rw [hrc]at HP hok;have HP:=Aa HP;have jX:Hid (c=0->r.s=Zb s i (Aw x)):=Aa (λe=>hok r (by rw [e]));generalize(Gt (GY s i) (Bg (hdN s i)) a).2=bx at*;generalize(Eh (hdN s i) a).2=by_ at*;clear ht hf hn hr hF hh hx1 hy1 hrc hok;go_enter func19,ntmps19
    go_wp2_with fail
    refine(Gx HA.out).mono ?_;rintro e w'⟨rfl,rfl⟩
    go_wp2_with fail
    refine(IM HA.out off ho).mono ?_;rintro e w1⟨rfl,hd⟩;rw [HF.out];have ha:=HA.out.dr hd;have y5:=ha.y5;have y6:=ha.y6;have c1:=ha.tk i hi;have c2:=ha.hd i hi;clear ha
    go_wp2_with fail
    refine(HH.out _).mono ?_;rintro e w'⟨rfl,hd'⟩;replace hd:=hd.trans hd';clear y5 y6 c1 c2 hd';have ha:=HA.out.dr hd;have y5:=ha.y5;have y6:=ha.y6;have c1:=ha.tk i hi;have c2:=ha.hd i hi;clear ha
    go_wp2_with fail
    go_quiet(first
     | (go_at_call 51;exact Aj0 (HC.out _))
     | (go_at_call 58;exact Aj0 (HT.out _)))
    clear y5 y6 c1 c2;replace hd:=hd.trans (Dr.one _ nq)
    go_wp2_with fail
    refine(HP.out _ hd).mono ?_;rintro e w2⟨rfl,F2,hs2,hm2⟩;have hm3:=((AP.refl F w).dr hd).trans hm2;by_cases hc0:c=0
    ·have hrs:=jX.out hc0;subst hc0;rw [if_pos rfl]at HV;obtain⟨rp,rs⟩:=r;simp only at hrs;subst hrs;simp only at HV;obtain⟨tb2,hb2,n2,cT2,cH2,Aga,hr2,hF2⟩:=hs2;have ha2:=hr2.at;have hi2:i<n2:=by rw [<-ha2.Oq,Zb];simpa using hil
     have z6:=ha2.y6;have z2:=ha2.hd i hi2;rw [show hdN (Zb s i (Aw x)) i=hdN s i from rfl]at z2;have z3:=hr2.hd.frozen i;have HR2:=Aa (λW(k:Dr w2 W)=>hr2.held hF2 i y hyl k);clear hm2 ha2 hr2 HP HR HS HA HC HT jX
     go_wp2_with fail
     go_region_with(go_at_call 62;go_loud(refine(HD.out _).mono ?_;rintro e w3⟨rfl,q,rfl⟩))
     all_goals(clear z6 z2 z3 HD)
     all_goals(go_wp2_with fail)
     all_goals(go_ret)
     all_goals(rw [HV.out])
     all_goals(first
      | exact⟨rfl,F2,(HR2.out _ (Dr.one w2 _)).1,hm3.trans (HR2.out _ (Dr.one w2 _)).2⟩)
    ·rw [if_neg hc0]at HV;have t9:(c !=0)=true:=by rw [bne_iff_ne];exact hc0
     have HS2:=Aa hs2;have HM3:=Aa hm3;clear hs2 hm3 hm2 hc0 HP HR HS HA HC HT HD jX
     go_wp2_with fail
     go_ret;rw [HV.out];exact⟨rfl,F2,HS2.out,HM3.out⟩
def gp(h:Sys w d p L s F)(off:Int)(ho: -9223372036854775808<=off/\off<=9223372036854775807):
 Calls prog 19 #[Az p,.int .i64 off] w λe w'=>e= .returned (.int .i64 (Ib s off).2)/\∃F',Sys w' d p L (Ib s off).1 F'/\AP F F' w w':=by
 have:=ZM (q:=⟨.up (-1),s⟩) h off ho;rw [fZ]at this;exact this
def gq{m:DY}(h:Ew m w d p L s F)(off:Int)(ho: -9223372036854775808<=off/\off<=9223372036854775807){i a:Nat}(hf:Ia s off=some (i,a))(hb1:(Eh (hdN s i) a).2=true):
 Calls prog 73 #[Az p,.int .i64 off] w λe w'=>e= .returned (.int .i64 0)/\Ew m w' d p L {s with hd:=s.hd.set i (Aw (Eh (hdN s i) a).1)} F/\AP F F w w':=by
 obtain⟨tb,hb,n,cT,cH,own,hr,hF⟩:=h;have HA:=Aa hr.at;have hn:=hr.Oq;obtain⟨hi,hx, -⟩:=NZ hf;rw [hn]at hi;have HF:Hid (IJ s off= .tuple #[.int .i64 (i:Int),.int .i64 (a:Int),.bool true]):=Aa (by rw [IJ,hf]);have HR:=Aa hr;have HFF:=Aa hF;obtain⟨y,hy1⟩:∃y,(Eh (hdN s i) a).1=y:=⟨_,rfl⟩;have hyl:y<18446744073709551616:=by rw [<-hy1];exact V3 _ _ (JV s i) O
 have HD:=Aa (V4 (hdN s i) a · (JV s i) O);rw [hy1,hb1]at HD;rw [hy1];clear hf hn hr hF hb1 hy1;go_enter func73,ntmps73
 go_wp2_with fail
 refine(Gx HA.out).mono ?_;rintro e w'⟨rfl,rfl⟩
 go_wp2_with fail
 refine(IM HA.out off ho).mono ?_;rintro e w1⟨rfl,hd⟩;rw [HF.out];have ha:=HA.out.dr hd;have y5:=ha.y5;have y6:=ha.y6;have c1:=ha.tk i hi;have c2:=ha.hd i hi;clear ha
 go_wp2_with fail
 refine(HD.out _).mono ?_;rintro e w'⟨rfl,hd'⟩;replace hd:=hd.trans hd';clear y5 y6 c1 c2 hd';have ha:=HA.out.dr hd;have y6:=ha.y6;have c2:=ha.hd i hi;have f2:=(HR.out.dr hd).hd.frozen i;have HR2:=Aa (HR.out.held HFF.out i y hyl hd);clear ha
 go_wp2_with fail
 go_ret;exact⟨rfl,HR2.out.1,HR2.out.2⟩
def Uu{q:Ms}(h:QW w d p L q F)(off:Int)(ho: -9223372036854775808<=off/\off<=9223372036854775807):
 Calls prog 73 #[Az p,.int .i64 off] w λe w'=>e= .returned (.int .i64 (Ji q off).2)/\∃F',QW w' d p L (Ji q off).1 F'/\AP F F' w w':=by
 obtain⟨pw,s⟩:=q;have ht:=h;obtain⟨tb,hb,n,cT,cH,own,hr,hF⟩:=h;have HA:=Aa hr.at;have hn:=hr.Oq;cases hf:Ia s off with
 | none=>
   have HV:Hid (Ji ⟨pw,s⟩ off=(⟨pw,s⟩,7)):=Aa (by rw [Ji,hf]);have HF:Hid (IJ s off= .tuple #[.int .i64 0,.int .i64 0,.bool false]):=Aa (by rw [IJ,hf]);have HS:=Aa ht;clear ht hf hn hr hF;go_enter func73,ntmps73
   go_wp2_with fail
   refine(Gx HA.out).mono ?_;rintro e w'⟨rfl,rfl⟩
   go_wp2_with fail
   refine(IM HA.out off ho).mono ?_;rintro e w1⟨rfl,hd⟩;rw [HF.out]
   go_wp2_with fail
   go_ret;rw [HV.out];exact⟨rfl,F,HS.out.dr hd,(AP.refl _ _).dr hd⟩
 | some ia=>
   obtain⟨i,a⟩:=ia;obtain⟨hi,hx, -⟩:=NZ hf;have hil:=hi;rw [hn]at hi;have HF:Hid (IJ s off= .tuple #[.int .i64 (i:Int),.int .i64 (a:Int),.bool true]):=Aa (by rw [IJ,hf]);have HS:=Aa ht;have HR:=Aa hr;have HFF:=Aa hF;obtain⟨y,hy1⟩:∃y,(Eh (hdN s i) a).1=y:=⟨_,rfl⟩;have hyl:y<18446744073709551616:=by rw [<-hy1];exact V3 _ _ (JV s i) O
   have HD:=Aa (V4 (hdN s i) a · (JV s i) O);rw [hy1]at HD;cases hb1:(Eh (hdN s i) a).2
   ·rw [hb1]at HD;obtain⟨x,hx1⟩:∃x,(Eh (GY s i) a).1=x:=⟨_,rfl⟩;have hxl:x<18446744073709551616:=by rw [<-hx1];exact V3 _ _ (Qg s i) O
    have HE:=Aa (V4 (GY s i) a · (Qg s i) O);rw [hx1]at HE;cases hb2:(Eh (GY s i) a).2
    ·rw [hb2]at HE;have HV:Hid (Ji ⟨pw,s⟩ off=(⟨pw,s⟩,7)):=Aa (by rw [Ji,hf];simp [hb1,hb2]);clear ht hf hn hr hF hb1 hb2 hx1 hy1;go_enter func73,ntmps73
     go_wp2_with fail
     refine(Gx HA.out).mono ?_;rintro e w'⟨rfl,rfl⟩
     go_wp2_with fail
     refine(IM HA.out off ho).mono ?_;rintro e w1⟨rfl,hd⟩;rw [HF.out];have ha:=HA.out.dr hd;have y5:=ha.y5;have y6:=ha.y6;have c1:=ha.tk i hi;have c2:=ha.hd i hi;clear ha
     go_wp2_with fail
     refine(HD.out _).mono ?_;rintro e w'⟨rfl,hd'⟩;replace hd:=hd.trans hd';clear y5 y6 c1 c2 hd';have ha:=HA.out.dr hd;have y5:=ha.y5;have y6:=ha.y6;have c1:=ha.tk i hi;have c2:=ha.hd i hi;clear ha
     go_wp2_with fail
     refine(HE.out _).mono ?_;rintro e w'⟨rfl,hd'⟩;replace hd:=hd.trans hd';clear y5 y6 c1 c2 hd'
     go_wp2_with fail
     go_ret;rw [HV.out];exact⟨rfl,F,HS.out.dr hd,(AP.refl _ _).dr hd⟩
    ·rw [hb2]at HE;have HV:Hid (Ji ⟨pw,s⟩ off=P5 ⟨pw,s⟩ i (Aw x)):=Aa (by rw [Ji,hf];simp [hb1,hb2,hx1]);have HP:=Aa (λW(k:Dr w W)=>gm (q:=⟨pw,s⟩) (ht.dr k) i x hil hxl);clear ht hf hn hr hF hb1 hb2 hx1 hy1;go_enter func73,ntmps73
     go_wp2_with fail
     refine(Gx HA.out).mono ?_;rintro e w'⟨rfl,rfl⟩
     go_wp2_with fail
     refine(IM HA.out off ho).mono ?_;rintro e w1⟨rfl,hd⟩;rw [HF.out];have ha:=HA.out.dr hd;have y5:=ha.y5;have y6:=ha.y6;have c1:=ha.tk i hi;have c2:=ha.hd i hi;clear ha
     go_wp2_with fail
     refine(HD.out _).mono ?_;rintro e w'⟨rfl,hd'⟩;replace hd:=hd.trans hd';clear y5 y6 c1 c2 hd';have ha:=HA.out.dr hd;have y5:=ha.y5;have y6:=ha.y6;have c1:=ha.tk i hi;have c2:=ha.hd i hi;clear ha
     go_wp2_with fail
     refine(HE.out _).mono ?_;rintro e w'⟨rfl,hd'⟩;replace hd:=hd.trans hd';clear y5 y6 c1 c2 hd'
     go_wp2_with fail
     refine(HP.out _ hd).mono ?_;rintro e w2⟨rfl,F2,hs2,hm2⟩
     go_wp2_with fail
     go_ret;rw [HV.out];exact⟨rfl,F2,hs2,((AP.refl F w).dr hd).trans hm2⟩
   ·have HV:Hid (Ji ⟨pw,s⟩ off=(⟨pw,{s with hd:=s.hd.set i (Aw y)}⟩,0)):=Aa (by rw [Ji,hf];simp [hb1,hy1]);refine(gq ht off ho hf hb1).mono ?_;rintro e w'⟨rfl,h1,h2⟩;rw [HV.out];rw [hy1]at h1;exact⟨rfl,F,h1,h2⟩
def Wy(h:Sys w d p L s F)(off:Int)(ho: -9223372036854775808<=off/\off<=9223372036854775807):
 Calls prog 73 #[Az p,.int .i64 off] w λe w'=>e= .returned (.int .i64 (IE s off).2)/\∃F',Sys w' d p L (IE s off).1 F'/\AP F F' w w':=by
 have:=Uu (q:=⟨.up (-1),s⟩) h off ho;rw [Wx]at this;exact this
end
def gu(k:Nat)(w:World)(hk:k<=10000):Calls prog 75 #[.int .i64 (k:Int)] w λe w'=>e= .returned (.int .i64 (JO k:Nat))/\w=w':=by
 have e1:((k:Int)+8-1)/8=(((k+7)/8:Nat):Int):=O
 have e2:(2:Int)+(((k+7)/8:Nat):Int)=(JO k:Nat):=by unfold JO;omega
 have hb:(k+7)/8<=2000:=O
 generalize(k+7)/8=q at*;go_enter func75,ntmps75;go_wp2;go_ret;exact⟨by rw [<-e2];simp [e1],rfl⟩
def Agb(k b:Nat)(w:World)(hk:k<=10000)(hb:w.cell? (Φ b)=some (.func (.func 75) #[] #[])):
 Calls prog 76 #[.int .i64 (k:Int),Az b] w λe w'=>e= .returned (.int .i64 (NR k:Nat))/\w=w':=by
 have hq:JO k<=3000:=by unfold JO;omega
 have HA:=Aa (gu k w hk);have e2:((JO k:Nat):Int)+16*(k:Int)=(NR k:Nat):=by unfold NR;omega
 generalize JO k=q at*;go_enter func76,ntmps76
 go_wp2_with fail
 refine HA.out.mono ?_;rintro e w'⟨rfl,rfl⟩
 go_wp2_with fail
 go_ret;exact⟨by rw [<-e2];rfl,rfl⟩
def ofV(L:Nat):Value:=match shapeOf L with
 | some sh=> .tuple #[.agg #[.int .i64 (sh.lines:Nat),.int .i64 (sh.BM:Nat),.int .i64 (sh.table:Nat),.int .i64 (sh.data:Nat)],.bool true]
 | none=> .tuple #[.agg #[.int .i64 0,.int .i64 0,.int .i64 0,.int .i64 0],.bool false]
def jY(L k:Nat)(hk:k<L)(h:NR (k+1)<=L):JL L (L-k) k=JL L (L- (k+1)) (k+1):=by
 obtain⟨f,hf⟩:∃f,L-k=f+1:=⟨L-k-1,O⟩;rw [hf,show L- (k+1)=f by omega,JL,if_pos h]
def jZ(L k:Nat)(h:¬NR (k+1)<=L):JL L (L-k) k=k:=by
 cases hf:L-k with
 | zero=>rfl
 | succ f=>rw [JL,if_neg h]
def wQ{P:Program}(a:Addr)(F:Fn)(fs cs:Array Value)(w:World):(store a (.func F fs cs)).run P w=stored P w a (.func F fs cs) .plain:=run_store P w a _ .plain rfl
def gy{Q:Ending->World->Prop}{W:World}{tmps:Array Value}(g:Nat){a b c d:Value}(h:CS W g 35 [a,b,c,d])(v:Value)(h2:tmps[2]? =some (Az g))(h3:tmps[3]? =some v)
 (hq:Q (.returned (.tuple #[.agg #[a,b,c,d],v])) W):bodyPost prog Tryz.f34 Q Exit.ret {tmps:=tmps,defers:=[]} W:=by
 obtain⟨y0,y1,y2,y3,f0,f1,f2,f3⟩:=CG h;have hu:=run_underlying (P:=prog) underlying35;refine bodyPost_ret (v:= .tuple #[.agg #[a,b,c,d],v]) (by simp [results,results34,go_sem,h2,h3,y0,y1,y2,y3]) rfl hq
def Qh(L:Nat)(w:World)(hL:L<=1024):Calls prog 34 #[.int .i64 (L:Int)] w λe w'=>e= .returned (ofV L)/\η w w':=by
 have t1:decide ((1024:Int)<(L:Int))=false:=decide_eq_false O;have B0:CS (w.alloc (.cells #[.int .i64 0,.int .i64 0,.int .i64 0,.int .i64 0] 35)) w.heap.size 35 [.int .i64 0,.int .i64 0,.int .i64 0,.int .i64 0]:=heap_alloc_new _ _;have hs0:(w.alloc (.cells #[.int .i64 0,.int .i64 0,.int .i64 0,.int .i64 0] 35)).heap.size=w.heap.size+1:=by simp
 have B1:CS ((w.alloc (.cells #[.int .i64 0,.int .i64 0,.int .i64 0,.int .i64 0] 35)).alloc (.cells #[.nilFunc] 131)) (w.heap.size+1) 131 [.nilFunc]:=by rw [<-hs0];exact heap_alloc_new _ _
 have c1:=B1.cell 0;have f1:=B1.frozen 0;simp only [List.getElem?_cons_zero]at c1;have sf:=λa fs cs W=>wQ (P:=prog) a (.func 75) fs cs W
 go_enter func34,ntmps34
 go_wp2_with fail
 obtain⟨W,hW⟩:∃W,W=((w.alloc (.cells #[.int .i64 0,.int .i64 0,.int .i64 0,.int .i64 0] 35)).alloc (.cells #[.func (.func 75) #[] #[]] 131)):=⟨_,rfl⟩;rw [<-hW];have k1:CS W (w.heap.size+1) 131 [.func (.func 75) #[] #[]]:=by rw [hW,<-hs0];exact heap_alloc_new _ _
 have k0:CS W w.heap.size 35 [.int .i64 0,.int .i64 0,.int .i64 0,.int .i64 0]:=by
  rw [hW];exact(χ _ _ O).trans B0
 have hbW:η w W:=by rw [hW];exact(((Below.refl _ _).alloc (Ad _) _).alloc Θ _)
 have K1:=Aa (k1.cell 0);have K0:=Aa k0;have HB:=Aa hbW;clear B0 B1 c1 f1 hW k1 k0 hs0 hbW
 go_loopw [6](λi wr=>∃k,k<=L/\i= .int .i64 (k:Nat)/\wr=W/\JL L (L-k) k=Qa L)(λi _=>L- (intOf i).toNat)
 case atStart=>exact⟨0,BU _,rfl,rfl,by rw [Nat.sub_zero];rfl⟩
 case round=>
  obtain⟨k,hk,rfl,rfl,hS⟩:=hrel;have HN:=Aa (Agb (k+1) (w.heap.size+1) wr O (by have:=K1.out;simpa using this));by_cases h1:NR (k+1)<=L
  ·have hk1:k<L:=by unfold NR at h1;omega
   have t2:decide (((NR (k+1):Nat):Int)<=(L:Int))=true:=decide_eq_true O;have t2':decide (NR (k+1)<=L)=true:=decide_eq_true O;have HS:Hid (JL L (L- (k+1)) (k+1)=Qa L):=Aa (by rw [<-jY L k hk1 h1];exact hS);generalize NR (k+1)=nd at*;clear hS
   go_wp2_with fail
   rw [show(k:Int)+1=((k+1:Nat):Int)by omega];refine HN.out.mono ?_;rintro e w'⟨rfl,rfl⟩
   go_wp2_with fail
   go_roundw
   case rel=>exact⟨k+1,O,by go_num,trivial,HS.out⟩
   case measure=>simp [intOf];omega
  ·have hkS:Qa L=k:=by rw [<-hS];exact jZ L k h1
   obtain⟨nd,hnd⟩:∃nd,NR (k+1)=nd:=⟨_,rfl⟩;rw [hnd]at HN h1;have t2:decide ((nd:Int)<=(L:Int))=false:=decide_eq_false O;have t2':decide (nd<=L)=false:=decide_eq_false O;clear hS h1 hnd;have HA:=Aa (gu k wr O);obtain⟨y0,y1,y2,y3,f0,f1,f2,f3⟩:=CG K0.out;by_cases h0:k=0
   ·subst h0;have HV:Hid (ofV L= .tuple #[.agg #[.int .i64 0,.int .i64 0,.int .i64 0,.int .i64 0],.bool false]):=Aa (by
     unfold ofV shapeOf;rw [if_neg O];simp [hkS])
    have HN0:=HN.out;rw [show(((0+1:Nat)):Int)=1 from rfl]at HN0;have HN0:=Aa HN0;clear hkS
    go_wp2_with fail
    refine HN0.out.mono ?_;rintro e w'⟨rfl,rfl⟩
    go_wp2_with fail
    have k9:=(((K0.out.AZ 0 (.int .i64 0)).AZ 1 (.int .i64 0)).AZ 2 (.int .i64 0)).AZ 3 (.int .i64 0);have b9:=(((HB.out.setCell (p:=Φ w.heap.size) (Ad _) (.int .i64 0)).setCell (p:=Δ w.heap.size 1) (Ad _) (.int .i64 0)).setCell (p:=Δ w.heap.size 2) (Ad _) (.int .i64 0)).setCell (p:=Δ w.heap.size 3) (Ad _) (.int .i64 0);refine gy w.heap.size k9 (.bool false) rfl rfl ?_;exact⟨by rw [HV.out],b9⟩
   ·have HV:Hid (ofV L= .tuple #[.agg #[.int .i64 (L:Nat),.int .i64 (k:Nat),.int .i64 128,.int .i64 ((64*JO k:Nat):Int)],.bool true]):=Aa (by
    unfold ofV shapeOf;rw [if_neg O];simp [hkS,h0,Nat.mul_comm])
    have t3:((k:Int)==0)=false:=by rw [beq_eq_false_iff_ne];omega
    have hah:JO k<=3000:=by unfold JO;omega
    have k1:wr.cell? (Φ (w.heap.size+1))=some (.func (.func 75) #[] #[]):=by have:=K1.out;simpa using this
    generalize JO k=ah at*;clear hkS
    go_wp2_with fail
    rw [show(k:Int)+1=((k+1:Nat):Int)by omega];refine HN.out.mono ?_;rintro e w'⟨rfl,rfl⟩
    go_wp2_with fail
    refine HA.out.mono ?_;rintro e w'⟨rfl,rfl⟩
    go_wp2_with fail
    have k9:=(((K0.out.AZ 0 (.int .i64 (L:Int))).AZ 1 (.int .i64 (k:Int))).AZ 2 (.int .i64 128)).AZ 3 (.int .i64 ((ah:Int)*64));have b9:=(((HB.out.setCell (p:=Φ w.heap.size) (Ad _) (.int .i64 (L:Int))).setCell (p:=Δ w.heap.size 1) (Ad _) (.int .i64 (k:Int))).setCell (p:=Δ w.heap.size 2) (Ad _) (.int .i64 128)).setCell (p:=Δ w.heap.size 3) (Ad _) (.int .i64 ((ah:Int)*64));refine gy w.heap.size k9 (.bool true) rfl rfl ?_;exact⟨by rw [HV.out];simp [Int.mul_comm],b9⟩
def uM(sh:Sh):Value:= .agg #[.int .i64 (sh.lines:Nat),.int .i64 (sh.BM:Nat),.int .i64 (sh.table:Nat),.int .i64 (sh.data:Nat)]
def Acg(x:Nat)(hx:x<18446744073709551616):wv (Aw x)= .int .u64 (x:Int):=by
 simp only [wv,J5];rw [Gl hx]
def TR:∀n,leBytes (BC n (0:UInt64))=BC (8*n) (0:UInt8)
 | 0=>rfl
 | n+1=>by
   rw [UR,leBytes,TR n,show Wj 0=BC 8 (0:UInt8)by decide,List.replicate_append_replicate,show 8+8*n=8*(n+1)by omega]
def QO(H:List UInt64)(k:Nat):List UInt64:=H.take k++BC (H.length-k) 0
def ku(H:List UInt64)(k:Nat)(hk:k<=H.length):(QO H k).length=H.length:=by simp [QO];omega
def Ach(H:List UInt64)(k:Nat)(hk:k<H.length):(QO H k).set k H[k]=QO H (k+1):=by
 obtain⟨r,hr⟩:∃r,H.length-k=r+1:=⟨H.length-k-1,O⟩;unfold QO;rw [hr,show H.length- (k+1)=r by omega,TD _ _ (by simp;omega)];simp only [List.length_take,Nat.min_eq_left (Nat.le_of_lt hk),Nat.sub_self,UR,List.set_cons_zero];rw [List.take_succ_eq_append_getElem hk,List.append_assoc];rfl
def Aci(H:List UInt64):QO H H.length=H:=by simp [QO]
def TS(sh:Sh)(w:World)(hL:sh.lines<=1024)(hs:shapeOf sh.lines=some sh)(hT:Ajp w):Calls prog 36 #[uM sh] w λe w'=>∃v,e= .returned v/\w'.ownsRow w.heap.size 28 1 v 8 ((wordsOf sh).map wv)/\η w w':=by
 have hOf:=λW=>Qh sh.lines W hL
 have HV:Hid (ofV sh.lines= .tuple #[uM sh,.bool true]):=Aa (by rw [ofV,hs];rfl);have pO:=Aa hOf;have ok:=FK hs;have b1:=ok.fits;obtain⟨sl,hsl⟩:∃x,sh.BM=x:=⟨_,rfl⟩;obtain⟨tb,htb⟩:∃x,sh.table=x:=⟨_,rfl⟩;obtain⟨dt,hdt⟩:∃x,sh.data=x:=⟨_,rfl⟩;obtain⟨li,wR⟩:∃x,sh.lines=x:=⟨_,rfl⟩;have hv:uM sh= .agg #[.int .i64 (li:Int),.int .i64 (sl:Int),.int .i64 (tb:Int),.int .i64 (dt:Int)]:=by rw [uM,hsl,htb,hdt,wR]
 rw [hv]at HV⊢;rw [wR]at HV pO hL;clear hOf hv;go_enter func36,ntmps36
 go_wp2_with fail
 have B0:CS (w.alloc (.cells #[.int .i64 (li:Int),.int .i64 (sl:Int),.int .i64 (tb:Int),.int .i64 (dt:Int)] 35)) w.heap.size 35 [.int .i64 (li:Int),.int .i64 (sl:Int),.int .i64 (tb:Int),.int .i64 (dt:Int)]:=heap_alloc_new _ _;refine(pO.out _).mono ?_;rintro e w1⟨rfl,hb1⟩;have B1:=B0.below hb1 Θ;have Gg:η w w1:=((Below.refl _ _).alloc (Ad _) _).trans (hb1.mono Θ);have hg1:w.heap.size<w1.heap.size:=B1.lt;obtain⟨y0,y1,y2,y3,f0,f1,f2,f3⟩:=CG B1;clear hb1 B0 f0 f1 f2 f3;rw [HV.out];obtain⟨i0,hi,hz0,hz1,hz2⟩:=info_parts Tryz.infoByte;obtain⟨H,hH⟩:∃H,headW sh=H:=⟨_,rfl⟩;have hHl:H.length=6:=by rw [<-hH];rfl
 have hrow:[Value.int .u64 465675318387,.int .u64 1,.int .u64 (li:Int),.int .u64 (sl:Int),.int .u64 (tb:Int),.int .u64 (dt:Int),.int .u64 0,.int .u64 0]=(H++[0,0]).map wv:=by
  have e:∀x:Nat,x<1000000->((Aw x).toNat:Int)=(x:Int):=λx hx=>by rw [J5,Gl O]
  have h1:=e li O;have h2:=e sl (Ω ok.fits);have h3:=e tb (Ω ok.table);have h4:=e dt (Ω ok.fits);rw [<-hH,headW,wR,hsl,htb,hdt];simp only [List.cons_append,EM,List.map_cons,List.map_nil,wv,h1,h2,h3,h4];rfl
 have hb2:sl<=1000000:=Ω ok.fits
 have hb3:tb<=1000000:=Ω ok.table
 have hb4:dt<=1000000:=Ω ok.fits
 have kz:=Aa hrow;have HHd:=Aa hH;clear hrow hH ok b1 hsl htb hdt hs
 go_wp2_with(at_make;go_loud(refine wpList_make_full _ rfl _ _ 22 rfl w.heap.size 5 i0 (.int .u8 0) 1 underlying22 hi hz0 hz1 .i64 .i64 _ _ 48 rfl rfl rfl rfl (by rw [hz2];decide) U (by simp;omega) ?_);intro w0 hown0 hgrow0)
 obtain⟨W2,hW2⟩:∃W2,W2=(w1.alloc (.cells #[.int .i64 (li:Int),.int .i64 (sl:Int),.int .i64 (tb:Int),.int .i64 (dt:Int)] 35)).alloc (.cells #[.int .u64 465675318387,.int .u64 1,.int .u64 (li:Int),.int .u64 (sl:Int),.int .u64 (tb:Int),.int .u64 (dt:Int),.int .u64 0,.int .u64 0] 28):=⟨_,rfl⟩;have hL0:CS W2 (w1.heap.size+1) 28 ((H++[0,0]).map wv):=by
  have e:(w1.alloc (.cells #[.int .i64 (li:Int),.int .i64 (sl:Int),.int .i64 (tb:Int),.int .i64 (dt:Int)] 35)).heap.size=w1.heap.size+1:=by simp
  rw [<-kz.out,<-e,hW2];exact heap_alloc_new _ _
 have hbW2:η w W2:=by rw [hW2];exact(Gg.alloc O _).alloc (by simp;omega) _
 rw [<-hW2]at hgrow0 hown0;have hs2:W2.heap.size=w1.heap.size+1+1:=by rw [hW2];simp
 rw [hs2]at hown0;have hlt0:=hL0.lt;have Ani:η W2 w0:=(Below.refl _ _).grown hgrow0 (Ad _) Θ;rw [PX,show BC 48 (0:UInt8)=leBytes (QO H 0)by rw [QO,List.take_zero,EM,hHl,TR]]at hown0;have HL0:=Aa hL0;have HB2:=Aa hbW2;clear hL0 hbW2 hgrow0 hW2 y0 y1 y2 y3 B1 Gg
 go_loopw [6,39](λb i wr=>∃k g c,k<=6/\i= .int .i64 (k:Nat)/\b= .slice (some (Φ g)) 48 c/\wr.ownsRow w.heap.size 5 1 (.slice (some (Φ g)) 48 c) 48 ((leBytes (QO H k)).map bv)/\η W2 wr)(λ_ i _=>6- (intOf i).toNat)
 case atStart=>
  refine⟨0,_,_,BU _,rfl,rfl,hown0,Ani⟩
 case round=>
  obtain⟨k,g,c,hk,rfl,rfl,hown,hbr⟩:=hrel;clear hown0 Ani;have hL1:=HL0.out.below hbr hlt0;by_cases hlt:k<6
  ·have hkH:k<H.length:=O
   have c1:=hL1.cell k;have ek:((H++[0,0]).map wv)[k]? =some (.int .u64 (H[k].toNat:Int)):=by
    rw [BZ,List.getElem?_append_left hkH,Af hkH];rfl
   rw [ek]at c1;have Qi:=Aa (XA (some (Φ g)) 48 c k (QO H k) H[k] wr U (CP hown).2 (by rw [ku H k O];omega));have Acj:=Aa (Ach H k hkH);generalize H[k]=x at*;have Nr:=Aa hbr;clear hL1 ek hown hbr
   go_wp2_with fail
   refine Qi.out.mono ?_;rintro e w2⟨g2,c2,rfl,hown2,hb2'⟩;rw [Acj.out]at hown2;have SY:=Aa (ES (base':=w.heap.size) hown2 (Nat.le_trans HB2.out.size Nr.out.size));have HB3:=Aa (τ Nr.out hb2');clear hown2 hb2' Qi
   go_wp2_with fail
   go_roundw
   case rel=>exact⟨k+1,g2,c2,O,by go_num,rfl,SY.out,HB3.out⟩
   case measure=>simp [intOf];omega
  ·have hk6:k=6:=O
   subst hk6;rw [show QO H 6=H by rw [<-hHl];exact Aci H]at hown;have hTw:Ajp wr:=λj hj=>(hbr.cell (p:=Δ 0 j) (Nat.lt_of_lt_of_le (D6 w _ (hT j hj)) HB2.out.size)).trans ((HB2.out.cell (p:=Δ 0 j) (D6 w _ (hT j hj))).trans (hT j hj))
   have Auy:=Aa (vX (some (Φ g)) 48 c (leBytes H) wr U (CP hown).2 hTw);have hcr:LX 0 (leBytes H)<4294967296:=by
    unfold LX;have:=Zf 0 (leBytes H) U (leBytes H).length (Ad _);rw [Pq,List.take_length]at this;exact Nat.xor_lt_two_pow (n:=32) this U
   have wS:Hid (wordsOf sh=H++[Aw (LX 0 (leBytes H)),0]):=Aa (by rw [wordsOf,HHd.out]);generalize LX 0 (leBytes H)=cr at*;have hL1':=hL1;have c6:=hL1.cell 6;rw [BZ,List.getElem?_append_right O,hHl]at c6;have f6:=hL1.frozen 6;have HL1:=Aa hL1;have Nr:=Aa hbr;clear hL1 hL1' hown hbr hTw
   go_wp2_with fail
   refine Auy.out.mono ?_;rintro e w'⟨rfl,rfl⟩
   go_wp2_with fail
   trace_state
   go_ret;have hL2:=HL1.out.AZ 6 (.int .u64 (cr:Int));have e1:((H++[0,0]).map wv).set 6 (.int .u64 (cr:Int))=(wordsOf sh).map wv:=by
    rw [wS.out,<-Acg cr O,<-List.map_set,TD _ _ O,hHl];rfl
   rw [e1]at hL2;have Amk:=hL2.own (B:=w.heap.size) O (by rw [BJ,wS.out];simp [hHl];decide);have hl8:((wordsOf sh).map wv).length=8:=by rw [BJ,wS.out];simp [hHl]
   rw [hl8]at Amk;exact⟨_,rfl,Amk,(τ HB2.out Nr.out).setCell (p:=Δ (w1.heap.size+1) 6) (by show w.heap.size<=w1.heap.size+1;omega) _⟩
def Oa{Q:Ending->World->Prop}{W:World}{tmps:Array Value}{fn:Func}(hr:fn.results= #[.cell 2 35,.tmp 3])(g:Nat){a b c d:Value}(h:CS W g 35 [a,b,c,d])(v:Value)(h2:tmps[2]? =some (Az g))(h3:tmps[3]? =some v)
 (hq:Q (.returned (.tuple #[.agg #[a,b,c,d],v])) W):bodyPost prog fn Q Exit.ret {tmps:=tmps,defers:=[]} W:=by
 obtain⟨y0,y1,y2,y3,f0,f1,f2,f3⟩:=CG h;have hu:=run_underlying (P:=prog) underlying35;refine bodyPost_ret (v:= .tuple #[.agg #[a,b,c,d],v]) (by simp [results,hr,go_sem,h2,h3,y0,y1,y2,y3]) rfl hq
def Dev.box{w:World}{d L:Nat}{ws:Nat->UInt64}{len:Mode}{mark:Nat->Nat}{own:Nat->Prop}(h:Dev w d L ws len mark own):∃g v1 v2 v3,CS w d 78 [.slice (some (Φ g)) L L,v1,v2,v3]:=by
 obtain⟨g,hb,hr,_⟩:=h;obtain⟨st,hbx⟩:=hr.box;exact⟨g,_,_,_,hbx⟩
def Dev.size{w:World}{d L:Nat}{ws:Nat->UInt64}{len:Mode}{mark:Nat->Nat}{own:Nat->Prop}(h:Dev w d L ws len mark own)(hL:L<=1024):Calls prog 32 #[Az d] w λe w'=>e= .returned (.int .i64 ((L*64:Nat):Int))/\w=w':=by
 obtain⟨g,_,_,_,hbx⟩:=h.box;exact NW d L g _ _ _ w hL hbx
def wU{w:World}{d L:Nat}{ws:Nat->UInt64}{own:Nat->Prop}{sh:Sh}(hL0:0<L)(hL:L<=1024)(hs:shapeOf L=some sh)(h:Dev w d L ws M0 (λ_=>0) own)(hT:Tabs w)(g1:¬own 0)(g2:¬own 1):
 Calls prog 90 #[Az d] w λe w'=>e= .returned (.tuple #[uM sh,.int .i64 0])/\
  ∃own',Dev w' d L (BO (BO ws 0 (BC (8*L) 0)) 0 (wordsOf sh)) M0 (λ_=>0) own'/\AP own own' w w':=by
 have ok:=FK hs;have wR:=ok.lines;have hlt:=h.lt;obtain⟨N,hN⟩:∃N,N=L*64:=⟨_,rfl⟩;have mZ:=Aa (λW(h:Dev W d L ws M0 (λ_=>0) own)=>by have:=h.size hL;rw [<-hN]at this;exact this);have e1:(N:Int)/64=(L:Int):=O
 have t1:((L:Int)==0)=false:=by rw [beq_eq_false_iff_ne];omega
 have pO:=Aa (λW=>Qh L W hL);have HV:Hid (ofV L= .tuple #[uM sh,.bool true]):=Aa (by rw [ofV,hs];rfl);obtain⟨v0,v1,v2,v3,hsv⟩:∃v0 v1 v2 v3:Nat,uM sh= .agg #[.int .i64 (v0:Int),.int .i64 (v1:Int),.int .i64 (v2:Int),.int .i64 (v3:Int)]:=⟨_,_,_,_,rfl⟩;have HSV:=Aa hsv;rw [hsv]at HV;have B0:CS (w.alloc (.cells #[.int .i64 0,.int .i64 0,.int .i64 0,.int .i64 0] 35)) w.heap.size 35 [.int .i64 0,.int .i64 0,.int .i64 0,.int .i64 0]:=heap_alloc_new _ _;have hb0:η w (w.alloc (.cells #[.int .i64 0,.int .i64 0,.int .i64 0,.int .i64 0] 35)):=(Below.refl _ _).alloc (Ad _) _;have HD:=Aa h;clear h hN hsv;go_enter func90,ntmps90
 go_wp2_with fail
 obtain⟨W0,hW0⟩:∃W0,W0=w.alloc (.cells #[.int .i64 0,.int .i64 0,.int .i64 0,.int .i64 0] 35):=⟨_,rfl⟩;rw [<-hW0]at B0 hb0⊢;have hlt0:w.heap.size<W0.heap.size:=B0.lt;clear hW0;refine(mZ.out _ (HD.out.below hb0)).mono ?_;rintro e w'⟨rfl,rfl⟩
 go_wp2_with fail
 refine(pO.out _).mono ?_;rintro e w1⟨rfl,hb1⟩;rw [HV.out];have Gg:=τ hb0 hb1;have B1:=B0.below hb1 hlt0;have HB1:=Aa Gg;have V6:=Aa B1;clear hb0 hb1 B0 B1 Gg
 go_wp2_with fail
 obtain⟨W2,hW2⟩:∃W2,W2=w1.alloc (.cells #[.int .i64 (v0:Int),.int .i64 (v1:Int),.int .i64 (v2:Int),.int .i64 (v3:Int)] 35):=⟨_,rfl⟩;have hS2:CS W2 w1.heap.size 35 [.int .i64 (v0:Int),.int .i64 (v1:Int),.int .i64 (v2:Int),.int .i64 (v3:Int)]:=by rw [hW2];exact heap_alloc_new _ _
 have Ha:η w1 W2:=by rw [hW2];exact(Below.refl _ _).alloc (Ad _) _
 have hR2:=V6.out.ξ Ha;have ED:=τ HB1.out Ha;have hw1:w.heap.size<=w1.heap.size:=HB1.out.size;have hD2:=HD.out.below ED;have hT2:=hT.below ED;rw [<-hW2];clear hW2 Ha;have HR2:=Aa hR2;have HS2:=Aa hS2;have HB2:=Aa ED;have HT2:=Aa hT2;have QX:=Aa (Acf hL0 hL hD2);clear hR2 hS2 ED hT2 hD2;refine QX.out.mono ?_;rintro e w3⟨rfl,Af9,hD3,ht3,ho3⟩;have nr:¬own w.heap.size:=λh=>Ω (hlt _ h)
 have ns:¬own w1.heap.size:=λh=>Ω (hlt _ h)
 have hR3:=HR2.out.touch ht3 nr;have hS3:=HS2.out.touch ht3 ns;have hT3:=HT2.out.keep (ht3.block _ HT2.out.lt.1 g1) (ht3.block _ HT2.out.lt.2 g2);have hM3:AP own Af9 w w3:=(AP.of_below HB2.out).trans ⟨ht3,ho3⟩;obtain⟨y0,y1,y2,y3,_,_,_,_⟩:=CG hS3;have n1:∀b,b<W2.heap.size->¬own b->¬Af9 b:=λb hlt hn h=>(ho3 b h).elim hn (λh=>O)
 have n1r:=n1 _ HR2.out.lt nr;have n1s:=n1 _ HS2.out.lt ns;have HR3:=Aa hR3;have Ph:=Aa hS3;have HD3:=Aa hD3;have HM3:=Aa hM3;have wS:=TS sh w3 O (by rw [wR];exact hs) hT3.fours;rw [HSV.out]at wS;have wS:=Aa wS;clear hD3 ht3 ho3 hR3 hS3 hT3 hM3 QX
 go_wp2_with fail
 refine wS.out.mono ?_;rintro e w4⟨v4,rfl,hown4,hb4⟩;obtain⟨A4,c4,rfl,hc4,hr4⟩:=CU hown4;obtain⟨gd,hbd,hrd,hod⟩:=HD3.out;have hD4:Dev w4 d L (BO ws 0 (BC (8*L) 0)) M0 (λ_=>0) Af9:=⟨gd,hbd,hrd.below hb4,hod⟩;have HP:=ZG hL0 hL hD4 0 8 c4 A4 (wordsOf sh) O U hr4;rw [show((8*0:Nat):Int)=0 from rfl]at HP;have HP:=Aa HP;have hR4:=HR3.out.ξ hb4;have hS4:=Ph.out.ξ hb4;have HR4:=Aa hR4;have ni:=Aa hS4;have HM4:=Aa (HM3.out.below hb4);clear hD4 hrd hod hown4 hr4 hb4 hR4 hS4 y0 y1 y2 y3 wS
 go_wp2_with fail
 refine HP.out.mono ?_;rintro e w5⟨rfl,Aga,hD5,ht5,UM⟩;have Zx:=HR4.out.touch ht5 n1r;have hS5:=ni.out.touch ht5 n1s;have RH:=Aa (HM4.out.trans ⟨ht5,UM⟩);have n2r:¬Aga w.heap.size:=λh=>(UM _ h).elim n1r (λh=>Ω HR4.out.lt)
 have HD5:=Aa hD5;obtain⟨y0,y1,y2,y3,_,_,_,_⟩:=CG hS5;obtain⟨z0,z1,z2,z3,f0,f1,f2,f3⟩:=CG Zx;have uK:=Aa Zx;clear hD5 ht5 UM Zx hS5 HP
 go_wp2_with fail
 have k9:=(((uK.out.AZ 0 (.int .i64 (v0:Int))).AZ 1 (.int .i64 (v1:Int))).AZ 2 (.int .i64 (v2:Int))).AZ 3 (.int .i64 (v3:Int));have t9:Touch (λb=>b=w.heap.size) w5 ((((w5.setCell (Φ w.heap.size) (.int .i64 (v0:Int))).setCell (Δ w.heap.size 1) (.int .i64 (v1:Int))).setCell (Δ w.heap.size 2) (.int .i64 (v2:Int))).setCell (Δ w.heap.size 3) (.int .i64 (v3:Int))):=
  ((((Touch.refl (λb=>b=w.heap.size) w5).setCell (p:=Φ w.heap.size) (.inl rfl) _).setCell (p:=Δ w.heap.size 1) (.inl rfl) _).setCell (p:=Δ w.heap.size 2) (.inl rfl) _).setCell (p:=Δ w.heap.size 3) (.inl rfl) _
 refine Oa rfl w.heap.size k9 (.int .i64 0) rfl rfl ?_;refine⟨by rw [HSV.out],Aga,HD5.out.touch t9 (λb hb e=>n2r (e▸hb)),⟨?_,RH.out.own⟩⟩;exact(RH.out.touch.trans t9 (λb hb=> .inr O))
def RI(ws:Nat->UInt64)(sh:Sh):Value:=if wordsAt ws 0 8=wordsOf sh then .tuple #[uM sh,.int .i64 0]else .tuple #[.agg #[.int .i64 0,.int .i64 0,.int .i64 0,.int .i64 0],.int .i64 5]
def Tf{len:Mode}{w:World}{d L:Nat}{ws:Nat->UInt64}{own:Nat->Prop}{sh:Sh}(hL0:0<L)(hL:L<=1024)(hs:shapeOf L=some sh)(hu:len.lf≠0)(h:Dev w d L ws len (λ_=>0) own)(hT:Tabs w):
 Calls prog 9 #[Az d] w λe w'=>e= .returned (RI ws sh)/\η w w':=by
 have ok:=FK hs;have wR:=ok.lines;obtain⟨N,hN⟩:∃N,N=L*64:=⟨_,rfl⟩;have mZ:=Aa (λW(h:Dev W d L ws len (λ_=>0) own)=>by have:=h.size hL;rw [<-hN]at this;exact this);have e1:(N:Int)/64=(L:Int):=O
 have t1:((L:Int)==0)=false:=by rw [beq_eq_false_iff_ne];omega
 have pO:=Aa (λW=>Qh L W hL);have HV:Hid (ofV L= .tuple #[uM sh,.bool true]):=Aa (by rw [ofV,hs];rfl);obtain⟨v0,v1,v2,v3,hsv⟩:∃v0 v1 v2 v3:Nat,uM sh= .agg #[.int .i64 (v0:Int),.int .i64 (v1:Int),.int .i64 (v2:Int),.int .i64 (v3:Int)]:=⟨_,_,_,_,rfl⟩;have HSV:=Aa hsv;rw [hsv]at HV;have B0:CS (w.alloc (.cells #[.int .i64 0,.int .i64 0,.int .i64 0,.int .i64 0] 35)) w.heap.size 35 [.int .i64 0,.int .i64 0,.int .i64 0,.int .i64 0]:=heap_alloc_new _ _;have hb0:η w (w.alloc (.cells #[.int .i64 0,.int .i64 0,.int .i64 0,.int .i64 0] 35)):=(Below.refl _ _).alloc (Ad _) _;have HD:=Aa h;have HDb:=Aa (λW(k:η w W)=>(h.below k:Dev W d L ws len (λ_=>0) own));clear h hN hsv;go_enter func9,ntmps9
 go_wp2_with fail
 obtain⟨W0,hW0⟩:∃W0,W0=w.alloc (.cells #[.int .i64 0,.int .i64 0,.int .i64 0,.int .i64 0] 35):=⟨_,rfl⟩;rw [<-hW0]at B0 hb0⊢;have hlt0:w.heap.size<W0.heap.size:=B0.lt;clear hW0;refine(mZ.out _ (HDb.out _ hb0)).mono ?_;rintro e w'⟨rfl,rfl⟩;obtain⟨gd,hbd,hrd,hod⟩:=HDb.out _ hb0;have HG:=Y7 d L ws _ _ gd hbd 0 8 W0 hL0 hL hu hrd O;rw [show((8*0:Nat):Int)=0 from rfl]at HG;have HG:=Aa HG;clear hrd hod
 go_wp2_with fail
 refine HG.out.mono ?_;rintro e w1⟨v1',rfl,ho1,hb1⟩;obtain⟨A1,c1,rfl,hc1,hr1⟩:=CU ho1;have Gg:=τ hb0 hb1;have B1:=B0.below hb1 hlt0;have HR1:Hid (Ws w1 A1 8 (wordsAt ws 0 8)):=Aa hr1;have HB1:=Aa Gg;have V6:=Aa B1;clear hb0 hb1 B0 B1 Gg ho1 hr1 HG
 go_wp2_with fail
 refine(pO.out _).mono ?_;rintro e w2⟨rfl,hb2⟩;rw [HV.out];have ED:=τ HB1.out hb2;have hlt1:=V6.out.lt;have wW:=V6.out.below hb2 hlt1;have hr2:=HR1.out.below hb2;obtain⟨W3,hW3⟩:∃W3,W3=w2.alloc (.cells #[.int .i64 (v0:Int),.int .i64 (v1:Int),.int .i64 (v2:Int),.int .i64 (v3:Int)] 35):=⟨_,rfl⟩;have Gn:η w2 W3:=by rw [hW3];exact(Below.refl _ _).alloc (Ad _) _
 have hS3:CS W3 w2.heap.size 35 [.int .i64 (v0:Int),.int .i64 (v1:Int),.int .i64 (v2:Int),.int .i64 (v3:Int)]:=by rw [hW3];exact heap_alloc_new _ _
 have Arp:=wW.ξ Gn;have OO:=τ ED Gn;have wS:=TS sh W3 O (by rw [wR];exact hs) (hT.below OO).fours;rw [HSV.out]at wS;have wS:=Aa wS;have HR3:=Aa (hr2.below Gn);have Ph:=Aa hS3;have kC:=Aa Arp;have HB3:=Aa OO;have HW3:=Aa hW3;clear ED wW hr2 Gn hS3 Arp OO hb2 hW3 V6 HR1
 go_wp2_with fail
 rw [<-HW3.out];refine wS.out.mono ?_;rintro e w4⟨v4,rfl,hown4,hb4⟩;obtain⟨A4,c4,rfl,hc4,hr4⟩:=CU hown4;have HEq:=Aa (Qe A1 A4 8 8 c1 c4 (wordsAt ws 0 8) (wordsOf sh) w4 U U (HR3.out.below hb4) hr4);have ni:=Aa (Ph.out.ξ hb4);have ZN:=Aa (kC.out.ξ hb4);have HB4:=Aa (τ HB3.out hb4);clear hown4 hr4 hb4 wS;by_cases he:wordsAt ws 0 8=wordsOf sh
 ·rw [decide_eq_true he]at HEq;have HVV:Hid (RI ws sh= .tuple #[uM sh,.int .i64 0]):=Aa (by rw [RI,if_pos he]);clear he
  go_wp2_with fail
  refine HEq.out.mono ?_;rintro e w5⟨rfl,q,rfl⟩;have hS5:=ni.out.ξ ((Dr.one w4 q).below _);have Zx:=ZN.out.ξ ((Dr.one w4 q).below _);obtain⟨W5,ny⟩:∃W5,W5=w4.drewN q:=⟨_,rfl⟩;have hb5:η w W5:=HB4.out.trans ((by rw [ny];exact(Dr.one w4 q).below _));rw [<-ny]at hS5 Zx⊢;clear ny;obtain⟨y0,y1,y2,y3,_,_,_,_⟩:=CG hS5;obtain⟨z0,z1,z2,z3,f0,f1,f2,f3⟩:=CG Zx;have uK:=Aa Zx;have Jz:=Aa hb5;clear Zx hS5 hb5
  go_wp2_with fail
  have k9:=(((uK.out.AZ 0 (.int .i64 (v0:Int))).AZ 1 (.int .i64 (v1:Int))).AZ 2 (.int .i64 (v2:Int))).AZ 3 (.int .i64 (v3:Int));have b9:=(((Jz.out.setCell (p:=Φ w.heap.size) (Ad _) (.int .i64 (v0:Int))).setCell (p:=Δ w.heap.size 1) (Ad _) (.int .i64 (v1:Int))).setCell (p:=Δ w.heap.size 2) (Ad _) (.int .i64 (v2:Int))).setCell (p:=Δ w.heap.size 3) (Ad _) (.int .i64 (v3:Int));refine Oa rfl w.heap.size k9 (.int .i64 0) rfl rfl ?_;exact⟨by rw [HVV.out,HSV.out],b9⟩
 ·rw [decide_eq_false he]at HEq;have HVV:Hid (RI ws sh= .tuple #[.agg #[.int .i64 0,.int .i64 0,.int .i64 0,.int .i64 0],.int .i64 5]):=Aa (by rw [RI,if_neg he]);clear he
  go_wp2_with fail
  refine HEq.out.mono ?_;rintro e w5⟨rfl,q,rfl⟩;have Zx:=ZN.out.ξ ((Dr.one w4 q).below _);obtain⟨W5,ny⟩:∃W5,W5=w4.drewN q:=⟨_,rfl⟩;have hb5:η w W5:=HB4.out.trans ((by rw [ny];exact(Dr.one w4 q).below _));rw [<-ny]at Zx⊢;clear ny;obtain⟨z0,z1,z2,z3,f0,f1,f2,f3⟩:=CG Zx;have uK:=Aa Zx;have Jz:=Aa hb5;clear Zx hb5
  go_wp2_with fail
  have k9:=(((uK.out.AZ 0 (.int .i64 0)).AZ 1 (.int .i64 0)).AZ 2 (.int .i64 0)).AZ 3 (.int .i64 0);have b9:=(((Jz.out.setCell (p:=Φ w.heap.size) (Ad _) (.int .i64 0)).setCell (p:=Δ w.heap.size 1) (Ad _) (.int .i64 0)).setCell (p:=Δ w.heap.size 2) (Ad _) (.int .i64 0)).setCell (p:=Δ w.heap.size 3) (Ad _) (.int .i64 0);refine Oa rfl w.heap.size k9 (.int .i64 5) rfl rfl ?_;exact⟨by rw [HVV.out],b9⟩
structure Jm where
 s:Ms
 made:List Int
def kD(j n:Nat):Nat:=n+((j+n-1)/8-j/8+1)+1
def Ei(j:Jm)(n:Nd):Jm×UInt64×Int:=
 if !C9 n then(j,0,5)else
 match CO j.s.s (Dp n)with
 | none=>(j,0,6)
 | some (off,s1)=>
   match Y9 ⟨j.s.pw,s1⟩ (kD (off/8) (Ea n).length) (BO s1.ws (off/8) (Ea n))with
   | (r,c)=>if c=0 then
       match QN r off with
       | (s2,e)=>if e=0 then(⟨s2,j.made++[(off:Int)]⟩,Aw off,0)else(⟨s2,j.made++[(off:Int)]⟩,0,e)
     else(⟨r,j.made++[(off:Int)]⟩,0,c)
def Hr(j:Jm)(n:Nd)(label:UInt8)(kid:UInt64)(e:Int):Jm×UInt64×Int:=
 if e≠0 then(j,0,e)else
 if Jo n label kid then Ei j (Ic n label kid)else(j,0,5)
def Lh:Nat->Jm->List UInt8->UInt64->Jm×UInt64×Int
 | 0,j,_,_=>(j,0,5)
 | f+1,j,l,value=>
   if l.length<=15 then Ei j ⟨l,value,[],[]⟩else
   match Lh f j (l.drop 16) value with
   | (j1,kid,e)=>Hr j1 ⟨l.take 15,0,[],[]⟩ (l.getD 15 0) kid e
def J3(j:Jm)(x:Nd)(rest:List UInt8)(value:UInt64):Jm×UInt64×Int:=
 if common x.pre rest=x.pre.length then
  match Lh (rest.length+1) j (rest.drop (common x.pre rest+1)) value with
  | (j1,kid,e)=>Hr j1 x (rest.getD (common x.pre rest) 0) kid e
 else
  match Ei j {x with pre:=x.pre.drop (common x.pre rest+1)}with
  | (j1,kid,e)=>
    if common x.pre rest=rest.length then Hr j1 ⟨x.pre.take (common x.pre rest),value,[],[]⟩ (x.pre.getD (common x.pre rest) 0) kid e else
    if e≠0 then(j1,0,e)else
    if Jo ⟨x.pre.take (common x.pre rest),0,[],[]⟩ (x.pre.getD (common x.pre rest) 0) kid then
     match Lh (rest.length+1) j1 (rest.drop (common x.pre rest+1)) value with
     | (j2,Zc,e2)=>Hr j2 (Ic ⟨x.pre.take (common x.pre rest),0,[],[]⟩ (x.pre.getD (common x.pre rest) 0) kid) (rest.getD (common x.pre rest) 0) Zc e2
    else(j1,0,5)
def OT(q:Ms)(l:List Int):Ms:=l.foldl (λq off=>(Ji q off).1) q
def Md:Ms->List Int->Int->Ms×Int
 | q,[],e=>(q,e)
 | q,off::l,e=>Md (Ji q off).1 l (if e=0 then(Ji q off).2 else e)
def Fe(j:Jm)(e:Int)(word:Int)(name:UInt64)(old:List Int):Ms×Int:=
 if e≠0 then(OT j.s j.made,e)else
 match Y9 j.s 3 (FN j.s.s.ws (word.toNat/8) name)with
 | (r,c)=>if c=0 then Md r old 0 else(OT r j.made,c)
def Ob(q:Ms)(at_:Pl)(n:UInt64):Ms×Int:=Y9 q 3 (FN q.s.ws (at_.off.toNat/8+2) n)
def Qj(q:Ms)(key:List UInt8)(value:UInt64):Ms×Int:=
 if 16<key.length then(q,3)else if value=0 then(q,2)else
 match FY q.s key with
 | none=>(q,5)
 | some (way,rest)=>match CZ way rest with
   | some last=>Ob q last value
   | none=>match way.getLast? with
     | none=>match Lh (rest.length+1) ⟨q,[]⟩ rest value with
       | (j,name,e)=>Fe j e 72 name []
     | some last=>match J3 ⟨q,[]⟩ last.nd rest value with
       | (j,name,e)=>Fe j e last.word name [last.off]
def OU(j:Jm)(way:List Pl):Ms×Int:=
 match H8 way (way.length-1) [(way.getLast?.map (·.off)).getD 0]with
 | (0,old)=>Fe j 0 72 0 old
 | (a+1,old)=>match way[a]?,way[a+1]? with
   | some up,some at_=>match J6 up.nd.labels at_.label with
     | some i=>if C9 up.nd then match Ei j (Wl up.nd i)with
      | (j1,name,e)=>Fe j1 e up.word name (old++[up.off])
       else(j.s,5)
     | none=>(j.s,5)
   | _,_=>(j.s,5)
def RJ(q:Ms)(key:List UInt8):Ms×UInt64×Int:=
 if 16<key.length then(q,0,3)else
 match FY q.s key with
 | none=>(q,0,5)
 | some (way,rest)=>match CZ way rest with
   | none=>(q,0,7)
   | some last=>if last.nd.val=0 then(q,0,7)else
     match(if last.nd.kids.length=0 then OU ⟨q,[]⟩ way else(q,6))with
     | (q1,e)=>if e=6 then match Ob q1 last 0 with
      | (q2,c)=>if c=0 then(q2,last.nd.val,0)else(q2,0,c)
       else if e=0 then(q1,last.nd.val,0)else(q1,0,e)
def uN(j:Jb):Jm:=⟨⟨.up (-1),j.s⟩,j.made⟩
def Qk(j:Jb)(n:Nd):Ei (uN j) n=(uN (Nj j n).1,(Nj j n).2):=by
 unfold Ei Nj;cases C9 n
 ·rfl
 ·simp only [Bool.not_true,Bool.false_eq_true,if_false,uN];cases CO j.s (Dp n)with
  | none=>rfl
  | some os=>
    obtain⟨off,s1⟩:=os;simp only [YA,fZ,if_true];split<;>rfl
def Ql(j:Jb)(n:Nd)(label:UInt8)(kid:UInt64)(e:Int):Hr (uN j) n label kid e=(uN (JQ j n label kid e).1,(JQ j n label kid e).2):=by
 unfold Hr JQ;split
 ·rfl
 ·split
  ·exact Qk _ _
  ·rfl
def Ti:∀(f:Nat)(j:Jb)(l:List UInt8)(value:UInt64),Lh f (uN j) l value=(uN (Po f j l value).1,(Po f j l value).2)
 | 0,j,l,value=>rfl
 | f+1,j,l,value=>by
   unfold Lh Po;split
   ·exact Qk _ _
   ·rw [Ti f];exact Ql _ _ _ _ _
def Ack(j:Jb)(x:Nd)(rest:List UInt8)(value:UInt64):J3 (uN j) x rest value=(uN (X5 j x rest value).1,(X5 j x rest value).2):=by
 unfold J3 X5;split
 ·rw [Ti];exact Ql _ _ _ _ _
 ·rw [Qk];generalize Nj j {x with pre:=x.pre.drop (common x.pre rest+1)}=r;obtain⟨j1,kid,e⟩:=r;simp only;split
  ·exact Ql _ _ _ _ _
  ·split
   ·rfl
   ·split
    ·rw [Ti];exact Ql _ _ _ _ _
    ·rfl
def ZO:∀(l:List Int)(s:St),OT ⟨.up (-1),s⟩ l=⟨.up (-1),Uf s l⟩
 | [],s=>rfl
 | off::l,s=>by
   show OT (Ji ⟨.up (-1),s⟩ off).1 l=_;rw [Wx];exact ZO l _
def XC:∀(l:List Int)(s:St)(e:Int),Md ⟨.up (-1),s⟩ l e=(⟨.up (-1),(Ru s l e).1⟩,(Ru s l e).2)
 | [],s,e=>rfl
 | off::l,s,e=>by
   unfold Md Ru;rw [Wx];exact XC l _ _
def O8(j:Jb)(e word:Int)(name:UInt64)(old:List Int):Fe (uN j) e word name old=(⟨.up (-1),(H7 j e word name old).1⟩,(H7 j e word name old).2):=by
 unfold Fe H7;split
 ·simp only [uN,ZO]
 ·simp only [uN,YA,if_true,XC]
def Uw(s:St)(pl:Pl)(n:UInt64):Ob ⟨.up (-1),s⟩ pl n=(⟨.up (-1),Qb s pl n⟩,0):=YA _ _ _
def Agc(s:St)(key:List UInt8)(value:UInt64):Qj ⟨.up (-1),s⟩ key value=(⟨.up (-1),(KJ s key value).1⟩,(KJ s key value).2):=by
 unfold Qj KJ;split
 ·rfl
 ·split
  ·rfl
  ·cases FY s key with
   | none=>rfl
   | some wr=>
     obtain⟨way,rest⟩:=wr;simp only;cases CZ way rest with
     | some last=>exact Uw _ _ _
     | none=>
       simp only;cases way.getLast? with
       | none=>
         simp only;rw [show(⟨⟨.up (-1),s⟩,[]⟩:Jm)=uN ⟨s,[]⟩from rfl,Ti];exact O8 _ _ _ _ _
       | some last=>
         simp only;rw [show(⟨⟨.up (-1),s⟩,[]⟩:Jm)=uN ⟨s,[]⟩from rfl,Ack];exact O8 _ _ _ _ _
def wX(j:Jb)(way:List Pl):OU (uN j) way=(⟨.up (-1),(Wn j way).1⟩,(Wn j way).2):=by
 unfold OU Wn;generalize H8 way (way.length-1) [(way.getLast?.map (·.off)).getD 0]=r;obtain⟨a,old⟩:=r;cases a with
 | zero=>exact O8 _ _ _ _ _
 | succ a=>
   simp only;cases way[a]? with
   | none=>rfl
   | some up=>
     cases way[a+1]? with
     | none=>rfl
     | some at_=>
       simp only;cases J6 up.nd.labels at_.label with
       | none=>rfl
       | some i=>
         simp only;split
         ·rw [Qk];exact O8 _ _ _ _ _
         ·rfl
def Agd(s:St)(key:List UInt8):RJ ⟨.up (-1),s⟩ key=(⟨.up (-1),(Ug s key).1⟩,(Ug s key).2):=by
 unfold RJ Ug;split
 ·rfl
 ·cases FY s key with
  | none=>rfl
  | some wr=>
    obtain⟨way,rest⟩:=wr;simp only;cases CZ way rest with
    | none=>rfl
    | some last=>
      simp only;split
      ·rfl
      ·split
       ·rw [show(⟨⟨.up (-1),s⟩,[]⟩:Jm)=uN ⟨s,[]⟩from rfl,wX];generalize Wn ⟨s,[]⟩ way=r;obtain⟨s1,e⟩:=r;simp only;split
        ·rw [Uw];rfl
        ·split<;>rfl
       ·simp only [if_true,Uw]
def pR(w:World):Calls prog 9 #[.pointer none] w λe w'=>e= .returned (.tuple #[.agg #[.int .i64 0,.int .i64 0,.int .i64 0,.int .i64 0],.int .i64 1])/\η w w':=by
 have mZ:=λW=>Aa (size_nil W)
 have B0:CS (w.alloc (.cells #[.int .i64 0,.int .i64 0,.int .i64 0,.int .i64 0] 35)) w.heap.size 35 [.int .i64 0,.int .i64 0,.int .i64 0,.int .i64 0]:=heap_alloc_new _ _;have hb0:η w (w.alloc (.cells #[.int .i64 0,.int .i64 0,.int .i64 0,.int .i64 0] 35)):=(Below.refl _ _).alloc (Ad _) _;go_enter func9,ntmps9
 go_wp2_with fail
 obtain⟨W0,hW0⟩:∃W0,W0=w.alloc (.cells #[.int .i64 0,.int .i64 0,.int .i64 0,.int .i64 0] 35):=⟨_,rfl⟩;rw [<-hW0]at B0 hb0⊢;clear hW0;refine(mZ _).out.mono ?_;rintro e w'⟨rfl,rfl⟩;obtain⟨z0,z1,z2,z3,f0,f1,f2,f3⟩:=CG B0;have HB0:=Aa B0;have Hb0:=Aa hb0;clear B0 hb0
 go_wp2_with fail
 have k9:=(((HB0.out.AZ 0 (.int .i64 0)).AZ 1 (.int .i64 0)).AZ 2 (.int .i64 0)).AZ 3 (.int .i64 0);have b9:=(((Hb0.out.setCell (p:=Φ w.heap.size) (Ad _) (.int .i64 0)).setCell (p:=Δ w.heap.size 1) (Ad _) (.int .i64 0)).setCell (p:=Δ w.heap.size 2) (Ad _) (.int .i64 0)).setCell (p:=Δ w.heap.size 3) (Ad _) (.int .i64 0);refine Oa rfl w.heap.size k9 (.int .i64 1) rfl rfl ?_;exact⟨rfl,b9⟩
section
variable{dv:Value}{er:Nat}
def Ux{w:World}(h0:0<er)(hH:Calls prog 9 #[dv] w λe w'=>e= .returned (.tuple #[.agg #[.int .i64 0,.int .i64 0,.int .i64 0,.int .i64 0],.int .i64 (er:Int)])/\η w w'):
 Calls prog 27 #[dv] w λe w'=>e= .returned (.tuple #[.pointer none,.int .i64 (er:Int)])/\η w w':=by
 have t0:((er:Int)==0)=false:=by rw [beq_eq_false_iff_ne];omega
 have t1:(er==0)=false:=by rw [beq_eq_false_iff_ne];omega
 have HH:=Aa hH;clear hH;go_enter func27,ntmps27
 go_wp2_with fail
 refine HH.out.mono ?_;rintro e w1⟨rfl,hb1⟩;have HB1:=Aa hb1;clear hb1 HH
 go_wp2_with fail
 go_ret2;exact⟨rfl,HB1.out.alloc HB1.out.size _⟩
def Uy{w:World}(h0:0<er)(hH:∀W,η w W->Calls prog 27 #[dv] W λe w'=>e= .returned (.tuple #[.pointer none,.int .i64 (er:Int)])/\η W w'):
 Calls prog 8 #[dv] w λe w'=>e= .returned (.tuple #[.agg #[.pointer none,.pointer none,.int .u64 0],.int .i64 (er:Int)])/\η w w':=by
 have t0:((er:Int)==0)=false:=by rw [beq_eq_false_iff_ne];omega
 have t1:(er==0)=false:=by rw [beq_eq_false_iff_ne];omega
 obtain⟨w1,hw1,hb1,hB1⟩:=EZ w 30 [.pointer none,.pointer none,.int .u64 0];have HH:=Aa (hH w1 hb1);have HB1:=Aa hb1;have wY:=Aa hB1;have HW1:=Aa hw1;clear hH hb1 hB1 hw1;go_enter func8,ntmps8
 go_wp2_with fail
 rw [<-HW1.out];refine HH.out.mono ?_;rintro e w7⟨rfl,hb7⟩;have dK:=Aa (τ HB1.out hb7);have k7:=wY.out.ξ hb7;have f0:=k7.frozen 0;have f1:=k7.frozen 1;have f2:=k7.frozen 2;obtain⟨e0,e1,e2⟩:=k7.p3;have HK7:=Aa k7;clear hb7 k7 HH
 go_wp2_with fail
 have k9:=((HK7.out.AZ 0 (.pointer none)).AZ 1 (.pointer none)).AZ 2 (.int .u64 0);have b9:=((dK.out.setCell (p:=Φ w.heap.size) (Ad _) (.pointer none)).setCell (p:=Δ w.heap.size 1) (Ad _) (.pointer none)).setCell (p:=Δ w.heap.size 2) (Ad _) (.int .u64 0);obtain⟨W,hW⟩:∃W,W=((w7.setCell (Φ w.heap.size) (.pointer none)).setCell (Δ w.heap.size 1) (.pointer none)).setCell (Δ w.heap.size 2) (.int .u64 0):=⟨_,rfl⟩;rw [<-hW];rw [<-hW]at k9 b9;have y0:=k9.cell 0;have y1:=k9.cell 1;have y2:=k9.cell 2;simp at y0 y1 y2;refine bodyPost_ret (v:= .tuple #[.agg #[.pointer none,.pointer none,.int .u64 0],.int .i64 (er:Int)]) (by simp [results,results8,go_sem,y0,y1,y2]) rfl ?_;exact⟨rfl,b9⟩
end
def XD(w:World):Calls prog 8 #[.pointer none] w λe w'=>e= .returned (.tuple #[.agg #[.pointer none,.pointer none,.int .u64 0],.int .i64 1])/\η w w':=
 Uy (er:=1) U (λW _=>Ux (er:=1) U (pR W))
def Arq:Sh:={lines:=40,BM:=2,table:=128,data:=192}
def Aj1:shapeOf 40=some Arq:=by decide+kernel
def pU{w:World}{d:Nat}{own:Nat->Prop}(h:Dev w d 40 (λ_=>0) M0 (λ_=>0) own)(hT:Tabs w):Calls prog 8 #[Az d] w λe w'=>e= .returned (.tuple #[.agg #[.pointer none,.pointer none,.int .u64 0],.int .i64 5])/\η w w':=by
 have hV:RI (λ_=>0) Arq= .tuple #[.agg #[.int .i64 0,.int .i64 0,.int .i64 0,.int .i64 0],.int .i64 5]:=by
  unfold RI;rw [if_neg (by decide+kernel)]
 refine Uy (er:=5) U (λW hW=>Ux (er:=5) U ?_);have:=Tf U U Aj1 U (h.below hW) (hT.below hW);rw [hV]at this;exact this
