import Derived.Test.YtkimaejoeapmnaaGreatDoorG08
import Derived.Test.YtkimaejoeapmnaaGreatDoorG10
set_option maxHeartbeats 32000000
set_option maxRecDepth 100000
open List renaming getElem?_eq_getElem->Af,length_set->Dh,replicate->BB,replicate_succ->Uw,set_append_right->SN,nil_append->Fz,getElem?_map->BZ,length_map->BH
open UInt64 renaming toNat_lt->Xx,ofNat->AA,toNat_ofNat'->Jq
open Go.Lib renaming hid->Aa
open Int renaming natCast_add->Ahu,natCast_mul->Gs,tdiv_eq_ediv_of_nonneg->bQ
open Nat renaming zero_le->BK,mod_eq_of_lt->FZ,le_refl->Ad
open Go.World renaming block_lt_of_cell?->Dz
namespace Go.Proofs.YtkimaejoeapmnaaGreatDoor
open Go.RowKit
theorem Atj{w:World}{g:Nat}{e:TypeId}{a b c d e' f i:Value}(h:CG w g e [a,b,c,d,e',f,i]):
 w.cell? ⟨g,0,none⟩=some a/\w.cell? ⟨g,1,none⟩=some b/\w.cell? ⟨g,2,none⟩=some c/\w.cell? ⟨g,3,none⟩=some d/\w.cell? ⟨g,4,none⟩=some e'/\w.cell? ⟨g,5,none⟩=some f/\w.cell? ⟨g,6,none⟩=some i:=
 ⟨h.cell 0,h.cell 1,h.cell 2,h.cell 3,h.cell 4,h.cell 5,h.cell 6⟩
theorem Aio{P:Program}{f:FuncId}{args:Array Value}{W:World}{n:Nat}{v:Value}(h:Calls P f args (W.drewN n) fun e w'=>e= .returned v/\Dr (W.drewN n) w'):
 Calls P f args (W.drewN n) fun e w''=>e= .returned v/\∃m,w''=W.drewN m:=
 h.mono fun _ _⟨he,m,hm⟩=>⟨he,n+m,by rw [hm,World.drewN_drewN]⟩
theorem Atk{P:Program}{f:FuncId}{args:Array Value}{W:World}{n:Nat}{v:Value}(h:Calls P f args (W.drewN n) fun e w'=>e= .returned v/\W.drewN n=w'):
 Calls P f args (W.drewN n) fun e w''=>e= .returned v/\∃m,w''=W.drewN m:=
 h.mono fun _ _⟨he,hm⟩=>⟨he,n,hm.symm⟩
structure H7(w:World)(d p L:Nat)(s:St)(tb hb n cT cH:Nat):Prop where
 y0:w.cell? ⟨p,0,none⟩=some (Aw d)
 y1:w.cell? ⟨p,1,none⟩=some (.int .i64 (s.sh.lines:Nat))
 y2:w.cell? ⟨p,2,none⟩=some (.int .i64 (s.sh.BI:Nat))
 y3:w.cell? ⟨p,3,none⟩=some (.int .i64 (s.sh.table:Nat))
 y4:w.cell? ⟨p,4,none⟩=some (.int .i64 (s.sh.data:Nat))
 y5:w.cell? ⟨p,5,none⟩=some (.slice (some ⟨tb,0,none⟩) n cT)
 y6:w.cell? ⟨p,6,none⟩=some (.slice (some ⟨hb,0,none⟩) n cH)
 tk:∀i,i<n->w.cell? ⟨tb,i,none⟩=some (.int .u64 (GR s i:Nat))
 hd:∀i,i<n->w.cell? ⟨hb,i,none⟩=some (.int .u64 (hdN s i:Nat))
 ok:aX L s.sh
 L1:L<=1024
 au:n=s.sh.BI
 NR:s.tk.length=n
theorem getD_at(xs:List UInt64)(i:Nat)(h:i<xs.length):xs.getD i 0=xs[i]:=by
 rw [List.getD_eq_getElem?_getD,Af h];rfl
theorem Es.at{len:DW}{w:World}{d p L:Nat}{s:St}{tb hb n cT cH:Nat}{own:Nat->Prop}(h:Es len w d p L s tb hb n cT cH own):H7 w d p L s tb hb n cT cH:=by
 obtain⟨y0,y1,y2,y3,y4,y5,y6⟩:=Atj h.box;refine⟨y0,y1,y2,y3,y4,y5,y6,fun i hi=> ?_,fun i hi=> ?_,FI h.shape,h.L1,h.au,h.NR⟩
 ·have hl:i<s.tk.length:=by rw [h.NR];exact hi
  rw [h.tk.cell i hl,GR,getD_at _ _ hl]
 ·have hl:i<s.hd.length:=by rw [h.kL];exact hi
  rw [h.hd.cell i hl,hdN,getD_at _ _ hl]
theorem PO(s:St)(i:Nat):GR s i<18446744073709551616:=Xx _
theorem JJ(s:St)(i:Nat):hdN s i<18446744073709551616:=Xx _
theorem N9(s:St)(i:Nat):CE s i<18446744073709551616:=Nat.or_lt_two_pow (n:=64) (PO s i) (JJ s i)
section
variable{w:World}{d p L:Nat}{s:St}{tb hb n cT cH:Nat}
theorem Gt(h:H7 w d p L s tb hb n cT cH):Calls Tryz.prog 48 #[Aw p] w fun e w'=>e= .returned (.bool false)/\w=w':=by
 have y0:=h.y0;clear h;go_enter Tryz.func48,Tryz.ntmps48;go_wp2;go_ret;exact⟨rfl,rfl⟩
theorem uO(h:H7 w d p L s tb hb n cT cH)(i:Nat)(hi:i<n):Calls Tryz.prog 66 #[Aw p,.int .i64 (i:Int)] w fun e w'=>e= .returned (.int .i64 ((8*(s.sh.table/8+i):Nat):Int))/\w=w':=by
 have y3:=h.y3;have ht:=h.ok.table;have hs:=h.au;have hf:=h.ok.fits;have hL:=h.L1;rw [ht]at y3;rw [show 8*(s.sh.table/8+i)=128+8*i by omega];clear h;go_enter Tryz.func66,Tryz.ntmps66;go_wp2;go_ret;exact⟨by go_num,rfl⟩
theorem Lc(h:H7 w d p L s tb hb n cT cH)(i:Nat)(hi:i<n):Calls Tryz.prog 57 #[Aw p,.int .i64 (i:Int)] w fun e w'=>e= .returned (.int .u64 (CE s i:Nat))/\Dr w w':=by
 have y5:=h.y5;have y6:=h.y6;have c1:=h.tk i hi;have c2:=h.hd i hi;have HE:=Aa (u64_or_nat (GR s i) (hdN s i) (PO s i) (JJ s i));clear h;go_enter Tryz.func57,Tryz.ntmps57
 go_wp2_with fail
 go_quiet(fail)
 go_wp2_with fail
 rw [HE.out];go_ret;exact⟨rfl,_,rfl⟩
theorem TQ(h:H7 w d p L s tb hb n cT cH)(i c a:Nat)(hi:i<n)(hc:c<4)(ha:a<=16):Calls Tryz.prog 50 #[Aw p,.int .i64 (i:Int),.int .i64 (c:Int),.int .i64 (a:Int)] w fun e w'=>e= .returned (.int .i64 (CW s.sh i c a:Nat))/\Dr w w':=by
 have y4:=h.y4;have hs:=h.au;have hf:=h.ok.fits;have hL:=h.L1;have hl:=dn c;have hm:64*Be c*a<=256*16:=Nat.mul_le_mul (by omega) ha;have HP:Hid (((CW s.sh i c a:Nat):Int)=(s.sh.data:Int)+1024*(i:Int)+64*((Be c:Nat):Int)*(a:Int)):=Aa (by unfold CW;rw [Ahu,Ahu,Gs,Gs,Gs];rfl);have e0:(64:Int)*((Be c:Nat):Int)*(a:Int)=((64*Be c*a:Nat):Int):=by rw [Gs,Gs];rfl
 have HL:=Aa (Oz c · (by omega));generalize Be c=lc at*;have s1:IntKind.i64.wrap (1024*(i:Int))=1024*(i:Int):=IntWalk.i64_in _ (by omega);have s2:IntKind.i64.wrap ((s.sh.data:Int)+1024*(i:Int))=(s.sh.data:Int)+1024*(i:Int):=IntWalk.i64_in _ (by omega);have s3:IntKind.i64.wrap (64*(lc:Int))=64*(lc:Int):=IntWalk.i64_in _ (by omega);have s4:IntKind.i64.wrap (64*(lc:Int)*(a:Int))=64*(lc:Int)*(a:Int):=IntWalk.i64_in _ (by rw [e0];omega);have s5:IntKind.i64.wrap ((s.sh.data:Int)+1024*(i:Int)+64*(lc:Int)*(a:Int))=(s.sh.data:Int)+1024*(i:Int)+64*(lc:Int)*(a:Int):=IntWalk.i64_in _ (by rw [e0];omega);clear h e0;go_enter Tryz.func50,Tryz.ntmps50
 go_wp2_with fail
 go_quiet((go_at_call 96;exact Atk (HL.out _)))
 go_wp2_with fail
 rw [HP.out];go_ret;exact⟨rfl,_,rfl⟩
theorem H7.dr{w':World}(h:H7 w d p L s tb hb n cT cH)(k:Dr w w'):H7 w' d p L s tb hb n cT cH:=by
 obtain⟨q,rfl⟩:=k;exact⟨h.y0,h.y1,h.y2,h.y3,h.y4,h.y5,h.y6,h.tk,h.hd,h.ok,h.L1,h.au,h.NR⟩
def I7(s:St)(off:Int):Value:=match Hz s off with
 | some (i,a)=> .tuple #[.int .i64 (i:Int),.int .i64 (a:Int),.bool true]
 | none=> .tuple #[.int .i64 0,.int .i64 0,.bool false]
theorem I9(h:H7 w d p L s tb hb n cT cH)(off:Int)(ho: -9223372036854775808<=off/\off<=9223372036854775807):Calls Tryz.prog 59 #[Aw p,.int .i64 off] w fun e w'=>e= .returned (I7 s off)/\Dr w w':=by
 have y4:=h.y4;have y5:=h.y5;have hs:=h.au;have hn:=h.NR;have hf:=h.ok.fits;have hL:=h.L1;have hd:=Dr.refl w;have H:=Aa h;by_cases h1:off<(s.sh.data:Int)
 ·have t1:decide (off<(s.sh.data:Int))=true:=decide_eq_true h1;have HV:Hid (I7 s off= .tuple #[.int .i64 0,.int .i64 0,.bool false]):=Aa (by rw [I7,Hz,if_pos (.inl h1)]);clear h h1 hs hn hf hL;go_enter Tryz.func59,Tryz.ntmps59
  go_wp2_with fail
  go_quiet(fail)
  go_wp2_with fail
  go_ret3
  exact⟨by rw [HV.out];rfl,_,rfl⟩
 ·have t1:decide (off<(s.sh.data:Int))=false:=decide_eq_false h1;have s1:IntKind.i64.wrap (1024*(n:Int))=1024*(n:Int):=IntWalk.i64_in _ (by omega);have s2:IntKind.i64.wrap ((s.sh.data:Int)+1024*(n:Int))=(s.sh.data:Int)+1024*(n:Int):=IntWalk.i64_in _ (by omega);by_cases h2:(s.sh.data:Int)+1024*(n:Int)<=off
  ·have t2:decide ((s.sh.data:Int)+1024*(n:Int)<=off)=true:=decide_eq_true h2;have HV:Hid (I7 s off= .tuple #[.int .i64 0,.int .i64 0,.bool false]):=Aa (by rw [I7,Hz,if_pos (.inr (by rw [hn];omega))]);clear h h1 h2 hs hn hf hL;go_enter Tryz.func59,Tryz.ntmps59
   go_wp2_with fail
   go_quiet(fail)
   go_wp2_with fail
   go_ret3
   exact⟨by rw [HV.out];rfl,_,rfl⟩
  ·have t2:decide ((s.sh.data:Int)+1024*(n:Int)<=off)=false:=decide_eq_false h2;have HF:Hid (Hz s off=if Be (Bd (CE s ((off.toNat-s.sh.data)/1024)))=0\/(off.toNat-s.sh.data)%1024%(64*Be (Bd (CE s ((off.toNat-s.sh.data)/1024))))≠0 then none else
    some ((off.toNat-s.sh.data)/1024,(off.toNat-s.sh.data)%1024/(64*Be (Bd (CE s ((off.toNat-s.sh.data)/1024)))))):=Aa (by rw [Hz,if_neg (by rw [hn];omega)])
   obtain⟨o,ho2,e9⟩:∃o:Nat,off.toNat-s.sh.data=o/\off=(s.sh.data:Int)+(o:Int):=⟨off.toNat-s.sh.data,rfl,by omega⟩;rw [ho2]at HF;have ho3:o<1024*n:=by omega
   have e1:IntKind.i64.wrap (off- (s.sh.data:Int))=(o:Int):=by rw [IntWalk.i64_in _ (by omega)];omega
   have e2:(o:Int).tdiv 1024=((o/1024:Nat):Int):=by rw [bQ (by omega)];omega
   have e3:(o:Int).tmod 1024=((o%1024:Nat):Int):=by rw [Int.tmod_eq_emod_of_nonneg (by omega)];omega
   have hi:o/1024<n:=by omega
   have hr:o%1024<1024:=Nat.mod_lt _ (by decide);generalize o/1024=i at*;generalize o%1024=r at*;have e4:IntKind.i64.wrap (i:Int)=(i:Int):=IntWalk.i64_in _ (by omega);have e5:IntKind.i64.wrap (r:Int)=(r:Int):=IntWalk.i64_in _ (by omega);have hcl:=Nk (CE s i);have hll:=dn (Bd (CE s i));clear h h1 h2 ho2 e9 hs hn hf hL;by_cases c1:Be (Bd (CE s i))=0
   ·have HV:Hid (I7 s off= .tuple #[.int .i64 0,.int .i64 0,.bool false]):=Aa (by rw [I7,HF.out,if_pos (.inl c1)]);have HL:=Aa (Oz (Bd (CE s i)) · (by omega));rw [c1]at HL;clear c1 hll HF;go_enter Tryz.func59,Tryz.ntmps59
    go_wp2_with fail
    go_quiet(fail)
    go_wp2_with fail
    go_quiet(fail)
    go_wp2_with fail
    refine(Lc (H.out.dr (Dr.one w _)) i hi).mono ?_;rintro e w1⟨rfl,hd1⟩;replace hd1:=(Dr.one w _).trans hd1
    go_wp2_with fail
    refine(Hf (CE s i) _ (N9 s i)).mono ?_;rintro e w2⟨rfl,hd2⟩;replace hd2:=hd1.trans hd2
    go_wp2_with fail
    refine(HL.out _).mono ?_;rintro e w3⟨rfl,rfl⟩
    go_wp2_with fail
    go_ret3
    exact⟨by rw [HV.out];rfl,hd2⟩
   ·have HL:=Aa (Oz (Bd (CE s i)) · (by omega));have q1:((64:Int)*((Be (Bd (CE s i)):Nat):Int)==0)=false:=by rw [beq_eq_false_iff_ne];omega
    have hm:(r:Int)%(64*((Be (Bd (CE s i)):Nat):Int))=((r%(64*Be (Bd (CE s i))):Nat):Int):=by rw [Int.natCast_emod,Gs];rfl
    by_cases c2:r%(64*Be (Bd (CE s i)))=0
    ·have HV:Hid (I7 s off= .tuple #[.int .i64 (i:Int),.int .i64 ((r/(64*Be (Bd (CE s i))):Nat):Int),.bool true]):=Aa (by rw [I7,HF.out,if_neg (by rintro(h| h);exact c1 h;exact h c2)]);have q2:((r:Int)%(64*((Be (Bd (CE s i)):Nat):Int))!=0)=false:=by rw [hm,c2];rfl
     have q3:(r:Int).tdiv (64*((Be (Bd (CE s i)):Nat):Int))=((r/(64*Be (Bd (CE s i))):Nat):Int):=by rw [bQ (by omega),Int.natCast_ediv,Gs];rfl
     have hq:r/(64*Be (Bd (CE s i)))<=r:=Nat.div_le_self _ _;generalize r/(64*Be (Bd (CE s i)))=qt at*;have q4:IntKind.i64.wrap (qt:Int)=(qt:Int):=IntWalk.i64_in _ (by omega);generalize Be (Bd (CE s i))=lc at*;clear hm HF c2;go_enter Tryz.func59,Tryz.ntmps59
     go_wp2_with fail
     go_quiet(fail)
     go_wp2_with fail
     go_quiet(fail)
     go_wp2_with fail
     refine(Lc (H.out.dr (Dr.one w _)) i hi).mono ?_;rintro e w1⟨rfl,hd1⟩;replace hd1:=(Dr.one w _).trans hd1
     go_wp2_with fail
     refine(Hf (CE s i) _ (N9 s i)).mono ?_;rintro e w2⟨rfl,hd2⟩;replace hd2:=hd1.trans hd2
     go_wp2_with fail
     refine(HL.out _).mono ?_;rintro e w3⟨rfl,rfl⟩
     go_wp2_with fail
     go_quiet(fail)
     go_wp2_with fail
     go_ret3
     exact⟨by rw [HV.out];rfl,hd2.trans (Dr.one _ _)⟩
    ·have HV:Hid (I7 s off= .tuple #[.int .i64 0,.int .i64 0,.bool false]):=Aa (by rw [I7,HF.out,if_pos (.inr c2)]);have q2:((r:Int)%(64*((Be (Bd (CE s i)):Nat):Int))!=0)=true:=by rw [hm,bne_iff_ne];omega
     generalize Be (Bd (CE s i))=lc at*;clear hm HF c2;go_enter Tryz.func59,Tryz.ntmps59
     go_wp2_with fail
     go_quiet(fail)
     go_wp2_with fail
     go_quiet(fail)
     go_wp2_with fail
     refine(Lc (H.out.dr (Dr.one w _)) i hi).mono ?_;rintro e w1⟨rfl,hd1⟩;replace hd1:=(Dr.one w _).trans hd1
     go_wp2_with fail
     refine(Hf (CE s i) _ (N9 s i)).mono ?_;rintro e w2⟨rfl,hd2⟩;replace hd2:=hd1.trans hd2
     go_wp2_with fail
     refine(HL.out _).mono ?_;rintro e w3⟨rfl,rfl⟩
     go_wp2_with fail
     go_ret3
     exact⟨by rw [HV.out];rfl,hd2⟩
end
inductive Pw where
 | up(lf:Int)
 | down(P:(Nat->UInt64)->Prop)
def Pw.mode:Pw->DW
 | .up lf=> .up (MU lf)
 | .down P=> .down P
structure Ms where
 pw:Pw
 s:St
def XU(q:Ms)(N:Nat)(ws2:Nat->UInt64):Ms×Int:=
 match q.pw with
 | .up lf=>if lf<0\/(N:Int)<=lf then(⟨if X9 lf N=0 then .down (fun ws'=>ws'=ws2)else .up (X9 lf N),{q.s with ws:=ws2}⟩,0)else(⟨.down (Half q.s.ws ws2),{q.s with ws:=ws2}⟩,12)
 | .down P=>(⟨.down P,{q.s with ws:=ws2}⟩,12)
abbrev QC(w:World)(d p L:Nat)(q:Ms)(F:Nat->Prop):Prop:=Ej q.pw.mode w d p L q.s F
theorem Ap1(q:Ms)(N:Nat)(ws2:Nat->UInt64):(XU q N ws2).1.s={q.s with ws:=ws2}:=by
 unfold XU;cases q.pw with
 | up lf=>simp only;split<;>rfl
 | down P=>rfl
theorem XV(s:St)(N:Nat)(ws2:Nat->UInt64):XU ⟨.up (-1),s⟩ N ws2=(⟨.up (-1),{s with ws:=ws2}⟩,0):=by
 unfold XU;simp only;rw [if_pos (.inl (by decide)),Aif,if_neg (by decide)]
section
variable{w w':World}{d p L:Nat}{s:St}{F:Nat->Prop}{q:Ms}
theorem Ej.Aew{P:(Nat->UInt64)->Prop}(h:Ej (.down P) w d p L s F)(ws2:Nat->UInt64):Ej (.down P) w d p L {s with ws:=ws2} F:=by
 obtain⟨tb,hb,n,cT,cH,own,h,hF⟩:=h;exact⟨tb,hb,n,cT,cH,own,⟨h.dev,h.L0,h.L1,h.shape,h.box,h.tk,h.hd,h.NR,h.kL,h.au,h.cT,h.cH,h.dp,h.dt,h.dh,h.pt,h.ph,h.th,h.tabs,h.g1,h.g2⟩,hF⟩
theorem UK.blk{P:(Nat->UInt64)->Prop}{own:Nat->Prop}(h:UK w d L P own):∃g v2 v3,CG w d 78 [.slice (some ⟨g,0,none⟩) L L,.bool true,v2,v3]:=by
 obtain⟨m,ws,mark,h1,⟨g,hb,hr,_⟩,_⟩:=h;obtain⟨st,hbx⟩:=hr.box;rw [decide_eq_true h1]at hbx;exact⟨g,_,_,hbx⟩
theorem Es.Ap2 {lf : Int} {N : Nat} {tb hb n cT cH g : Nat} {own : Nat -> Prop} {hb0 : Nat -> Option Nat} {j : Nat} {xs : List UInt64} {c : Int} (h : Es (.up (MU lf)) w d p L s tb hb n cT cH own) (hF : ∀ b, F b <-> (own b \/ b = p \/ b = tb \/ b = hb)) (ho : ∀ b, own b <-> Df d L g hb0 b)
    (hd : Wrote lf N w d L g hb0 s.ws j xs c w') : c = (XU ⟨.up lf, s⟩ N (BQ s.ws j xs)).2 /\ ∃ F', QC w' d p L (XU ⟨.up lf, s⟩ N (BQ s.ws j xs)).1 F' /\ AO F F' w w' := by
  have hlf := h.dev.2
  change lf ≠ 0 at hlf
  rcases hd with ⟨h1, h2, h3⟩ | ⟨h1, h2, h3, len, XQ, mark, h4, h5, h6, h7, h8⟩
  · have e : XU ⟨.up lf, s⟩ N (BQ s.ws j xs) = (⟨if X9 lf N = 0 then .down (fun ws' => ws' = BQ s.ws j xs) else .up (X9 lf N), { s with ws := BQ s.ws j xs }⟩, 0) := by
      unfold XU; simp only; rw [if_pos h2]
    rw [e]
    refine ⟨h1, ?_⟩
    by_cases hz : X9 lf N = 0
    · obtain ⟨F', hs, hm⟩ := h.cut (P := fun ws' => ws' = BQ s.ws j xs) hF ho h3 hz (fun _ => BK _) (fun _ _ h => nomatch h) (fun pick _ => by funext q; unfold Oa; rw [show ((MU (X9 lf N)).MJ (q / 8)) = [] from rfl, List.drop_nil]; rfl) (BQ s.ws j xs)
      refine ⟨F', ?_, hm⟩
      unfold QC
      simp only [if_pos hz]
      exact hs
    · obtain ⟨F', hs, hm⟩ := h.wrote hF ho h3 hz
      refine ⟨F', ?_, hm⟩
      unfold QC
      simp only [if_neg hz]
      exact hs
  · have e : XU ⟨.up lf, s⟩ N (BQ s.ws j xs) = (⟨.down (Half s.ws (BQ s.ws j xs)), { s with ws := BQ s.ws j xs }⟩, 12) := by
      unfold XU; simp only; rw [if_neg (by omega)]
    rw [e]
    obtain ⟨F', hs, hm⟩ := h.cut (P := Half s.ws (BQ s.ws j xs)) hF ho h8 h4 h5 (fun i c hc => by
      obtain ⟨t, t1, t2, _⟩ := h6 i c hc
      exact ⟨t, t1, t2⟩) (fun pick _ => Za h6 h7 pick) (BQ s.ws j xs)
    exact ⟨h1, F', hs, hm⟩
theorem UO(h:QC w d p L q F)(j:Nat)(x:UInt64)(hj:j<8*L):
 Calls Tryz.prog 95 #[Aw d,.int .i64 ((8*j:Nat):Int),.int .u64 (x.toNat:Int)] w fun e w'=>e= .returned (.int .i64 (XU q 3 (Gg q.s.ws j x)).2)/\
  ∃F',QC w' d p L (XU q 3 (Gg q.s.ws j x)).1 F'/\AO F F' w w':=by
 obtain⟨pw,s⟩:=q;have hs:=h;obtain⟨tb,hb,n,cT,cH,own,h,hF⟩:=h;cases pw with
 | up lf=>
   obtain⟨⟨g,hb0,hr,ho⟩,hu⟩:=h.dev;refine(mO lf d L g hb0 s.ws j x w h.L0 h.L1 hr hj).mono ?_;rintro e w'⟨c,rfl,hd⟩;have:=h.Ap2 hF ho hd;rw [dC]at this;exact⟨by rw [this.1],this.2⟩
 | down P=>
   obtain⟨g,v2,v3,hB⟩:=UK.blk h.dev;refine(Aer d L g j x v2 v3 own w h.L0 h.L1 hB).mono ?_;rintro e w'⟨rfl,hb⟩;exact⟨rfl,F,Ej.Aew (Ej.below hs hb) _,AO.of_below hb⟩
theorem nz(h:QC w d p L q F)(j n c:Nat)(A:Option Addr)(xs:List UInt64)(hj:j+n<=8*L)(hn0:0<n)(hx:Ws w A n xs):
 Calls Tryz.prog 139 #[Aw d,.int .i64 ((8*j:Nat):Int),.slice A n c] w fun e w'=>e= .returned (.int .i64 (XU q (n+((j+n-1)/8-j/8+1)+1) (BQ q.s.ws j xs)).2)/\
  ∃F',QC w' d p L (XU q (n+((j+n-1)/8-j/8+1)+1) (BQ q.s.ws j xs)).1 F'/\AO F F' w w':=by
 obtain⟨pw,s⟩:=q;have hs:=h;obtain⟨tb,hb,n',cT,cH,own,h,hF⟩:=h;cases pw with
 | up lf=>
   obtain⟨⟨g,hb0,hr,ho⟩,hu⟩:=h.dev;refine(QW lf d L g hb0 s.ws j n c A xs w h.L0 h.L1 hr hj hn0 hx).mono ?_;rintro e w'⟨c,rfl,hd⟩;have:=h.Ap2 hF ho hd;exact⟨by rw [this.1],this.2⟩
 | down P=>
   obtain⟨g,v2,v3,hB⟩:=UK.blk h.dev;refine(mV d L g j n c A xs v2 v3 w h.L0 h.L1 hB hj hn0 hx).mono ?_;rintro e w'⟨rfl,hb⟩;exact⟨rfl,F,Ej.Aew (Ej.below hs hb) _,AO.of_below hb⟩
end
def OT(q:Ms)(i:Nat)(x:UInt64):Ms×Int:=
 match XU q 3 (Gg q.s.ws (q.s.sh.table/8+i) x)with
 | (r,e)=>if e=0 then(⟨r.pw,Y1 q.s i x⟩,0)else(r,e)
def Qy(q:Ms)(off:Int):Ms×Int:=
 match Hz q.s off with
 | none=>(q,7)
 | some (i,a)=>if EK (hdN q.s i) a then
  match OT q i (AA (Gm (GR q.s i) (Bd (hdN q.s i)) a).1)with
  | (r,e)=>if e=0 then(⟨r.pw,{r.s with hd:=q.s.hd.set i (AA (Eb (hdN q.s i) a).1)}⟩,0)else(r,e)
   else(q,7)
def IW(q:Ms)(off:Int):Ms×Int:=
 match Hz q.s off with
 | none=>(q,7)
 | some (i,a)=>
   if(Eb (hdN q.s i) a).2 then(⟨q.pw,{q.s with hd:=q.s.hd.set i (AA (Eb (hdN q.s i) a).1)}⟩,0)
   else if(Eb (GR q.s i) a).2 then OT q i (AA (Eb (GR q.s i) a).1)
   else(q,7)
theorem dF(s:St)(i:Nat)(x:UInt64):OT ⟨.up (-1),s⟩ i x=(⟨.up (-1),Y1 s i x⟩,0):=by
 unfold OT;rw [XV];rfl
theorem Aex{q r:Ms}{i:Nat}{x:UInt64}(h:OT q i x=(r,0)):r.s=Y1 q.s i x:=by
 unfold OT at h;split at h;split at h
 ·injection h with h _;rw [<-h]
 ·rename_i h0;injection h with _ h;exact absurd h h0
theorem dG(s:St)(off:Int):Qy ⟨.up (-1),s⟩ off=(⟨.up (-1),(IP s off).1⟩,(IP s off).2):=by
 unfold Qy IP;cases Hz s off with
 | none=>rfl
 | some ia=>
   obtain⟨i,a⟩:=ia;simp only [dF];cases EK (hdN s i) a<;>rfl
theorem VC(s:St)(off:Int):IW ⟨.up (-1),s⟩ off=(⟨.up (-1),(J4 s off).1⟩,(J4 s off).2):=by
 unfold IW J4;cases Hz s off with
 | none=>rfl
 | some ia=>
   obtain⟨i,a⟩:=ia;simp only [dF];cases(Eb (hdN s i) a).2
   ·cases(Eb (GR s i) a).2<;>rfl
   ·rfl
theorem NC{s:St}{off:Int}{i a:Nat}(h:Hz s off=some (i,a)):i<s.tk.length/\a<16/\off=((CW s.sh i (Bd (CE s i)) a:Nat):Int)/\1<=Be (Bd (CE s i))/\Be (Bd (CE s i))*a+Be (Bd (CE s i))<=16:=by
 unfold Hz at h;split at h
 ·cases h
 ·rename_i h1;obtain⟨o,ho⟩:∃o,off.toNat-s.sh.data=o:=⟨_,rfl⟩;rw [ho]at h;have hoff:off=((s.sh.data+o:Nat):Int):=by omega
  have ho2:o<1024*s.tk.length:=by omega
  split at h
  ·cases h
  ·rename_i h2;injection h with h
   injection h with hi ha
   rw [hi]at h2 ha;have hl1:Be (Bd (CE s i))≠0:=fun e=>h2 (.inl e)
   have hm:o%1024%(64*Be (Bd (CE s i)))=0:=Classical.byContradiction fun e=>h2 (.inr e)
   have hlc:Be (Bd (CE s i))=1\/Be (Bd (CE s i))=4:=by
    unfold Be at hl1⊢;split at hl1<;>simp_all
   unfold CW;rcases hlc with e| e
   ·rw [e]at hm ha⊢;refine⟨by omega,by omega,by omega,by omega,by omega⟩
   ·rw [e]at hm ha⊢;refine⟨by omega,by omega,by omega,by omega,by omega⟩
section
variable{w:World}{d p L:Nat}{s:St}{tb hb n cT cH:Nat}{own:Nat->Prop}
theorem Zg(h:H7 w d p L s tb hb n cT cH)(off:Int)(ho: -9223372036854775808<=off/\off<=9223372036854775807):Calls Tryz.prog 83 #[Aw p,.int .i64 off] w fun e w'=>e= .returned (.int .i64 (D5 s off:Nat))/\Dr w w':=by
 have H:=Aa h;cases hf:Hz s off with
 | none=>
   have HV:Hid (D5 s off=0):=Aa (by rw [D5,hf]);have HF:Hid (I7 s off= .tuple #[.int .i64 0,.int .i64 0,.bool false]):=Aa (by rw [I7,hf]);clear h hf;go_enter Tryz.func83,Tryz.ntmps83
   go_wp2_with fail
   refine(Gt H.out).mono ?_;rintro e w'⟨rfl,rfl⟩
   go_wp2_with fail
   refine(I9 H.out off ho).mono ?_;rintro e w1⟨rfl,hd⟩;rw [HF.out]
   go_wp2_with fail
   go_ret;exact⟨by rw [HV.out];rfl,hd⟩
 | some ia=>
   obtain⟨i,a⟩:=ia;obtain⟨hi,ha, -⟩:=NC hf;rw [h.NR]at hi;have HF:Hid (I7 s off= .tuple #[.int .i64 (i:Int),.int .i64 (a:Int),.bool true]):=Aa (by rw [I7,hf]);have HH:=Aa (QV (GR s i) a · (PO s i) (by omega));have HC:=Aa (Hf (GR s i) · (PO s i));have hv:D5 s off=if EK (GR s i) a then Bd (GR s i)else 0:=by rw [D5,hf]
   cases hh:EK (GR s i) a
   ·rw [hh]at hv HH;have HV:=Aa hv;clear h hf hv hh;go_enter Tryz.func83,Tryz.ntmps83
    go_wp2_with fail
    refine(Gt H.out).mono ?_;rintro e w'⟨rfl,rfl⟩
    go_wp2_with fail
    refine(I9 H.out off ho).mono ?_;rintro e w1⟨rfl,hd⟩;rw [HF.out];have h1:=H.out.dr hd;have y5:=h1.y5;have c1:=h1.tk i hi;clear h1
    go_wp2_with fail
    refine(HH.out _).mono ?_;rintro e w2⟨rfl,hd2⟩;clear y5 c1
    go_wp2_with fail
    go_ret;exact⟨by rw [HV.out];rfl,hd.trans hd2⟩
   ·rw [hh]at hv HH;have HV:=Aa hv;clear h hf hv hh;go_enter Tryz.func83,Tryz.ntmps83
    go_wp2_with fail
    refine(Gt H.out).mono ?_;rintro e w'⟨rfl,rfl⟩
    go_wp2_with fail
    refine(I9 H.out off ho).mono ?_;rintro e w1⟨rfl,hd⟩;rw [HF.out];have h1:=H.out.dr hd;have y5:=h1.y5;have c1:=h1.tk i hi;clear h1
    go_wp2_with fail
    refine(HH.out _).mono ?_;rintro e w2⟨rfl,hd2⟩;clear y5 c1;replace hd:=hd.trans hd2;have h1:=H.out.dr hd;have y5:=h1.y5;have c1:=h1.tk i hi;clear h1
    go_wp2_with fail
    refine(HC.out _).mono ?_;rintro e w3⟨rfl,hd3⟩;clear y5 c1
    go_wp2_with fail
    go_ret;exact⟨by rw [HV.out];rfl,hd.trans hd3⟩
theorem Tabs.set{w:World}(h:Tabs w){b:Nat}(h1:b≠0)(h2:b≠1)(k:Nat)(u:Value):Tabs (w.setCell ⟨b,k,none⟩ u):=
 h.keep (Below.heap_setCell w ⟨b,k,none⟩ u _ (fun e=>h1 e.symm)) (Below.heap_setCell w ⟨b,k,none⟩ u _ (fun e=>h2 e.symm))
theorem Es.Ap3{len:DW}(h:Es len w d p L s tb hb n cT cH own)(i:Nat)(x:UInt64):Es len (w.setCell ⟨tb,i,none⟩ (wv x)) d p L {s with tk:=s.tk.set i x} tb hb n cT cH own:=by
 have keep:∀b,b≠tb->(w.setCell ⟨tb,i,none⟩ (wv x)).heap[b]? =w.heap[b]? :=fun b hb'=>Below.heap_setCell w ⟨tb,i,none⟩ _ b hb'
 exact⟨h.dev.touch ((Touch.refl (fun b=>b=tb) w).setCell (p:=⟨tb,i,none⟩) (.inl rfl) _) (fun b hb' e=>h.dt (e▸hb')),h.L0,h.L1,h.shape,(keep p h.pt).trans h.box,h.tk.set i x,h.hd.keep (keep hb (fun e=>h.th e.symm)),
  by rw [Dh];exact h.NR,h.kL,h.au,h.cT,h.cH,h.dp,h.dt,h.dh,h.pt,h.ph,h.th,h.tabs.set (fun e=>h.g1 (.inr (.inr (.inl e.symm)))) (fun e=>h.g2 (.inr (.inr (.inl e.symm)))) _ _,h.g1,h.g2⟩
theorem Es.Aey{len:DW}(h:Es len w d p L s tb hb n cT cH own)(i:Nat)(x:UInt64):Es len (w.setCell ⟨hb,i,none⟩ (wv x)) d p L {s with hd:=s.hd.set i x} tb hb n cT cH own:=by
 have keep:∀b,b≠hb->(w.setCell ⟨hb,i,none⟩ (wv x)).heap[b]? =w.heap[b]? :=fun b hb'=>Below.heap_setCell w ⟨hb,i,none⟩ _ b hb'
 exact⟨h.dev.touch ((Touch.refl (fun b=>b=hb) w).setCell (p:=⟨hb,i,none⟩) (.inl rfl) _) (fun b hb' e=>h.dh (e▸hb')),h.L0,h.L1,h.shape,(keep p h.ph).trans h.box,h.tk.keep (keep tb h.th),h.hd.set i x,
  h.NR,by rw [Dh];exact h.kL,h.au,h.cT,h.cH,h.dp,h.dt,h.dh,h.pt,h.ph,h.th,h.tabs.set (fun e=>h.g1 (.inr (.inr (.inr e.symm)))) (fun e=>h.g2 (.inr (.inr (.inr e.symm)))) _ _,h.g1,h.g2⟩
theorem Dr.drew(w:World):Dr w w.drew:=⟨1,rfl⟩
theorem Ej.dr{len:DW}{F:Nat->Prop}{w':World}(h:Ej len w d p L s F)(k:Dr w w'):Ej len w' d p L s F:=h.below (k.below _)
theorem AO.dr{F F':Nat->Prop}{w w' w'':World}(h:AO F F' w w')(k:Dr w' w''):AO F F' w w'':=h.below (k.below _)
theorem iP(x:Nat)(hx:x<18446744073709551616):wv (AA x)= .int .u64 (x:Int):=by
 simp only [wv,Jq];rw [FZ hx]
theorem dH{F:Nat->Prop}{q:Ms}(h:QC w d p L q F)(i x:Nat)(hi:i<q.s.tk.length)(hx:x<18446744073709551616):
 Calls Tryz.prog 61 #[Aw p,.int .i64 (i:Int),.int .u64 (x:Int)] w fun e w'=>e= .returned (.int .i64 (OT q i (AA x)).2)/\∃F',QC w' d p L (OT q i (AA x)).1 F'/\AO F F' w w':=by
 have H:=Aa h;obtain⟨tb,hb,n,cT,cH,own,hr,hF⟩:=h;have h1:=hr.at;have hin:i<n:=by rw [<-h1.NR];exact hi
 have y0:=h1.y0;have HE:=Aa (fun W(hW:Dr w W)=>uO (h1.dr hW) i hin);have hent:q.s.sh.table/8+i<8*L:=by
  have:=h1.ok.table;have:=h1.ok.fits;have:=h1.ok.MK;have:=h1.au;omega
 have HP:=fun W(hW:Dr w W)=>UO (H.out.dr hW) (q.s.sh.table/8+i) (AA x) hent
 rw [show((AA x).toNat:Int)=(x:Int)by rw [Jq,FZ hx]]at HP;have hsw:=Ap1 q 3 (Gg q.s.ws (q.s.sh.table/8+i) (AA x));obtain⟨⟨r,c⟩,hrc⟩:∃r,XU q 3 (Gg q.s.ws (q.s.sh.table/8+i) (AA x))=r:=⟨_,rfl⟩;have HV:Hid (OT q i (AA x)=if c=0 then(⟨r.pw,Y1 q.s i (AA x)⟩,0)else(r,c)):=Aa (by unfold OT;rw [hrc]);rw [hrc]at HP hsw;simp only at hsw;have HP:=Aa HP;have HSw:=Aa hsw;clear h1 hr hF hent hrc hsw;go_enter Tryz.func61,Tryz.ntmps61
 go_wp2_with fail
 go_region_with(first
  | (go_at_call 66;go_loud(refine(HE.out _ (Dr.drew _)).mono ?_;rintro e w'⟨rfl,rfl⟩))
  | (go_at_call 95;go_loud(refine(HP.out _ (Dr.drew _)).mono ?_;rintro e w1⟨rfl,F1,hs1,hm1⟩)))
 all_goals(replace hm1:=(AO.of_below ((Dr.drew w).below _)).trans hm1)
 all_goals(clear y0 HE HP)
 all_goals(by_cases hc0:c=0)
 all_goals first
  | (subst hc0
     rw [if_pos rfl]at HV;obtain⟨tb1,hb1,n1,cT1,cH1,Aez,hr1,hF1⟩:=hs1;have h1:=hr1.at;have hin1:i<n1:=by rw [<-h1.NR,HSw.out];exact hi
     have y5:=h1.y5;have c1:=h1.tk i hin1;have f1:=hr1.tk.frozen i;have HR:=Aa (hr1.Ap3 i (AA x));rw [iP x hx,HSw.out]at HR;have HM:=Aa (hm1.set (p:=⟨tb1,i,none⟩) (hm1.own tb1 ((hF1 tb1).2 (.inr (.inr (.inl rfl))))) (.int .u64 (x:Int)));clear h1 hr1 hm1
     go_wp2_with fail
     go_ret;rw [HV.out];exact⟨rfl,F1,⟨tb1,hb1,n1,cT1,cH1,Aez,HR.out,hF1⟩,HM.out⟩)
  | (rw [if_neg hc0]at HV
     have t9:(c==0)=false:=by rw [beq_eq_false_iff_ne];exact hc0
     have HS1:=Aa hs1;have yI:=Aa hm1;clear hs1 hm1 hc0
     go_wp2_with fail
     go_ret;rw [HV.out];exact⟨rfl,F1,HS1.out,yI.out⟩)
end
section
variable{w:World}{d p L:Nat}{s:St}{tb hb n cT cH:Nat}{own:Nat->Prop}{F:Nat->Prop}
theorem Es.dr{len:DW}{w':World}(h:Es len w d p L s tb hb n cT cH own)(k:Dr w w'):Es len w' d p L s tb hb n cT cH own:=by
 obtain⟨q,rfl⟩:=k;exact⟨h.dev.below ((Dr.one w q).below _),h.L0,h.L1,h.shape,h.box,h.tk,h.hd,h.NR,h.kL,h.au,h.cT,h.cH,h.dp,h.dt,h.dh,h.pt,h.ph,h.th,h.tabs.below ((Dr.one w q).below _),h.g1,h.g2⟩
theorem Es.held{m:DW}(h:Es m w d p L s tb hb n cT cH own)(hF:∀b,F b<->(own b\/b=p\/b=tb\/b=hb))(i x:Nat)(hx:x<18446744073709551616){W:World}(k:Dr w W):
 Ej m (W.setCell ⟨hb,i,none⟩ (.int .u64 (x:Int))) d p L {s with hd:=s.hd.set i (AA x)} F/\AO F F w (W.setCell ⟨hb,i,none⟩ (.int .u64 (x:Int))):=by
 have h1:=(h.dr k).Aey i (AA x);rw [iP x hx]at h1;exact⟨⟨tb,hb,n,cT,cH,own,h1,hF⟩,((AO.refl F w).dr k).set (p:=⟨hb,i,none⟩) (.inl ((hF hb).2 (.inr (.inr (.inr rfl))))) _⟩
theorem Zh{q:Ms}(h:QC w d p L q F)(off:Int)(ho: -9223372036854775808<=off/\off<=9223372036854775807):
 Calls Tryz.prog 19 #[Aw p,.int .i64 off] w fun e w'=>e= .returned (.int .i64 (Qy q off).2)/\∃F',QC w' d p L (Qy q off).1 F'/\AO F F' w w':=by
 obtain⟨pw,s⟩:=q;have ht:=h;obtain⟨tb,hb,n,cT,cH,own,hr,hF⟩:=h;have HA:=Aa hr.at;have hn:=hr.NR;cases hf:Hz s off with
 | none=>
   have HV:Hid (Qy ⟨pw,s⟩ off=(⟨pw,s⟩,7)):=Aa (by rw [Qy,hf]);have HF:Hid (I7 s off= .tuple #[.int .i64 0,.int .i64 0,.bool false]):=Aa (by rw [I7,hf]);have HS:=Aa ht;clear ht hf hn hr hF;go_enter Tryz.func19,Tryz.ntmps19
   go_wp2_with fail
   refine(Gt HA.out).mono ?_;rintro e w'⟨rfl,rfl⟩
   go_wp2_with fail
   refine(I9 HA.out off ho).mono ?_;rintro e w1⟨rfl,hd⟩;rw [HF.out]
   go_wp2_with fail
   go_ret;rw [HV.out];exact⟨rfl,F,HS.out.dr hd,(AO.refl _ _).dr hd⟩
 | some ia=>
   obtain⟨i,a⟩:=ia;obtain⟨hi,hx, -⟩:=NC hf;have hil:=hi;rw [hn]at hi;have HF:Hid (I7 s off= .tuple #[.int .i64 (i:Int),.int .i64 (a:Int),.bool true]):=Aa (by rw [I7,hf]);have HS:=Aa ht;have HR:=Aa hr;have HFF:=Aa hF;have HH:=Aa (QV (hdN s i) a · (JJ s i) (by omega));cases hh:EK (hdN s i) a
   ·rw [hh]at HH;have HV:Hid (Qy ⟨pw,s⟩ off=(⟨pw,s⟩,7)):=Aa (by rw [Qy,hf];simp [hh]);clear ht hf hn hr hF hh;go_enter Tryz.func19,Tryz.ntmps19
    go_wp2_with fail
    refine(Gt HA.out).mono ?_;rintro e w'⟨rfl,rfl⟩
    go_wp2_with fail
    refine(I9 HA.out off ho).mono ?_;rintro e w1⟨rfl,hd⟩;rw [HF.out];have ha:=HA.out.dr hd;have y5:=ha.y5;have y6:=ha.y6;have c1:=ha.tk i hi;have c2:=ha.hd i hi;clear ha
    go_wp2_with fail
    refine(HH.out _).mono ?_;rintro e w'⟨rfl,hd'⟩;replace hd:=hd.trans hd';clear y5 y6 c1 c2 hd'
    go_wp2_with fail
    go_ret;rw [HV.out];exact⟨rfl,F,HS.out.dr hd,(AO.refl _ _).dr hd⟩
   ·rw [hh]at HH;obtain⟨x,hx1⟩:∃x,(Gm (GR s i) (Bd (hdN s i)) a).1=x:=⟨_,rfl⟩;obtain⟨y,hy1⟩:∃y,(Eb (hdN s i) a).1=y:=⟨_,rfl⟩;have hxl:x<18446744073709551616:=by rw [<-hx1];exact Zc _ _ _ (PO s i) (by omega)
    have hyl:y<18446744073709551616:=by rw [<-hy1];exact UM _ _ (JJ s i) (by omega)
    have hok:=fun(r:Ms)(h:OT ⟨pw,s⟩ i (AA x)=(r,0))=>Aex h
    obtain⟨⟨r,c⟩,hrc⟩:∃r,OT ⟨pw,s⟩ i (AA x)=r:=⟨_,rfl⟩;have HV:Hid (Qy ⟨pw,s⟩ off=if c=0 then(⟨r.pw,{r.s with hd:=s.hd.set i (AA y)}⟩,0)else(r,c)):=Aa (by rw [Qy,hf];simp [hh,hx1,hy1,hrc]);have HC:=Aa (Hf (hdN s i) · (JJ s i));have HT:=Aa (take_any (GR s i) (Bd (hdN s i)) a · (PO s i) (Nk _) (by omega));have HD:=Aa (UN (hdN s i) a · (JJ s i) (by omega));rw [hx1]at HT;rw [hy1]at HD;have HP:=fun W(k:Dr w W)=>dH (q:=⟨pw,s⟩) (ht.dr k) i x hil hxl
    rw [hrc]at HP hok;have HP:=Aa HP;have iQ:Hid (c=0->r.s=Y1 s i (AA x)):=Aa (fun e=>hok r (by rw [e]));generalize(Gm (GR s i) (Bd (hdN s i)) a).2=bx at*;generalize(Eb (hdN s i) a).2=by_ at*;clear ht hf hn hr hF hh hx1 hy1 hrc hok;go_enter Tryz.func19,Tryz.ntmps19
    go_wp2_with fail
    refine(Gt HA.out).mono ?_;rintro e w'⟨rfl,rfl⟩
    go_wp2_with fail
    refine(I9 HA.out off ho).mono ?_;rintro e w1⟨rfl,hd⟩;rw [HF.out];have ha:=HA.out.dr hd;have y5:=ha.y5;have y6:=ha.y6;have c1:=ha.tk i hi;have c2:=ha.hd i hi;clear ha
    go_wp2_with fail
    refine(HH.out _).mono ?_;rintro e w'⟨rfl,hd'⟩;replace hd:=hd.trans hd';clear y5 y6 c1 c2 hd';have ha:=HA.out.dr hd;have y5:=ha.y5;have y6:=ha.y6;have c1:=ha.tk i hi;have c2:=ha.hd i hi;clear ha
    go_wp2_with fail
    go_quiet(first
     | (go_at_call 51;exact Aio (HC.out _))
     | (go_at_call 58;exact Aio (HT.out _)))
    clear y5 y6 c1 c2;replace hd:=hd.trans (Dr.one _ nq)
    go_wp2_with fail
    refine(HP.out _ hd).mono ?_;rintro e w2⟨rfl,F2,hs2,hm2⟩;have hm3:=((AO.refl F w).dr hd).trans hm2;by_cases hc0:c=0
    ·have hrs:=iQ.out hc0;subst hc0;rw [if_pos rfl]at HV;obtain⟨rp,rs⟩:=r;simp only at hrs;subst hrs;simp only at HV;obtain⟨tb2,hb2,n2,cT2,cH2,Ae0,hr2,hF2⟩:=hs2;have ha2:=hr2.at;have hi2:i<n2:=by rw [<-ha2.NR,Y1];simpa using hil
     have z6:=ha2.y6;have z2:=ha2.hd i hi2;rw [show hdN (Y1 s i (AA x)) i=hdN s i from rfl]at z2;have z3:=hr2.hd.frozen i;have HR2:=Aa (fun W(k:Dr w2 W)=>hr2.held hF2 i y hyl k);clear hm2 ha2 hr2 HP HR HS HA HC HT iQ
     go_wp2_with fail
     go_region_with(go_at_call 62;go_loud(refine(HD.out _).mono ?_;rintro e w3⟨rfl,q,rfl⟩))
     all_goals(clear z6 z2 z3 HD)
     all_goals(go_wp2_with fail)
     all_goals(go_ret)
     all_goals(rw [HV.out])
     all_goals(first
      | exact⟨rfl,F2,(HR2.out _ (Dr.one w2 _)).1,hm3.trans (HR2.out _ (Dr.one w2 _)).2⟩)
    ·rw [if_neg hc0]at HV;have t9:(c !=0)=true:=by rw [bne_iff_ne];exact hc0
     have HS2:=Aa hs2;have HM3:=Aa hm3;clear hs2 hm3 hm2 hc0 HP HR HS HA HC HT HD iQ
     go_wp2_with fail
     go_ret;rw [HV.out];exact⟨rfl,F2,HS2.out,HM3.out⟩
theorem dI(h:Sys w d p L s F)(off:Int)(ho: -9223372036854775808<=off/\off<=9223372036854775807):
 Calls Tryz.prog 19 #[Aw p,.int .i64 off] w fun e w'=>e= .returned (.int .i64 (IP s off).2)/\∃F',Sys w' d p L (IP s off).1 F'/\AO F F' w w':=by
 have:=Zh (q:=⟨.up (-1),s⟩) h off ho;rw [dG]at this;exact this
theorem dJ{m:DW}(h:Ej m w d p L s F)(off:Int)(ho: -9223372036854775808<=off/\off<=9223372036854775807){i a:Nat}(hf:Hz s off=some (i,a))(hb1:(Eb (hdN s i) a).2=true):
 Calls Tryz.prog 73 #[Aw p,.int .i64 off] w fun e w'=>e= .returned (.int .i64 0)/\Ej m w' d p L {s with hd:=s.hd.set i (AA (Eb (hdN s i) a).1)} F/\AO F F w w':=by
 obtain⟨tb,hb,n,cT,cH,own,hr,hF⟩:=h;have HA:=Aa hr.at;have hn:=hr.NR;obtain⟨hi,hx, -⟩:=NC hf;rw [hn]at hi;have HF:Hid (I7 s off= .tuple #[.int .i64 (i:Int),.int .i64 (a:Int),.bool true]):=Aa (by rw [I7,hf]);have HR:=Aa hr;have HFF:=Aa hF;obtain⟨y,hy1⟩:∃y,(Eb (hdN s i) a).1=y:=⟨_,rfl⟩;have hyl:y<18446744073709551616:=by rw [<-hy1];exact UM _ _ (JJ s i) (by omega)
 have HD:=Aa (UN (hdN s i) a · (JJ s i) (by omega));rw [hy1,hb1]at HD;rw [hy1];clear hf hn hr hF hb1 hy1;go_enter Tryz.func73,Tryz.ntmps73
 go_wp2_with fail
 refine(Gt HA.out).mono ?_;rintro e w'⟨rfl,rfl⟩
 go_wp2_with fail
 refine(I9 HA.out off ho).mono ?_;rintro e w1⟨rfl,hd⟩;rw [HF.out];have ha:=HA.out.dr hd;have y5:=ha.y5;have y6:=ha.y6;have c1:=ha.tk i hi;have c2:=ha.hd i hi;clear ha
 go_wp2_with fail
 refine(HD.out _).mono ?_;rintro e w'⟨rfl,hd'⟩;replace hd:=hd.trans hd';clear y5 y6 c1 c2 hd';have ha:=HA.out.dr hd;have y6:=ha.y6;have c2:=ha.hd i hi;have f2:=(HR.out.dr hd).hd.frozen i;have HR2:=Aa (HR.out.held HFF.out i y hyl hd);clear ha
 go_wp2_with fail
 go_ret;exact⟨rfl,HR2.out.1,HR2.out.2⟩
theorem TR{q:Ms}(h:QC w d p L q F)(off:Int)(ho: -9223372036854775808<=off/\off<=9223372036854775807):
 Calls Tryz.prog 73 #[Aw p,.int .i64 off] w fun e w'=>e= .returned (.int .i64 (IW q off).2)/\∃F',QC w' d p L (IW q off).1 F'/\AO F F' w w':=by
 obtain⟨pw,s⟩:=q;have ht:=h;obtain⟨tb,hb,n,cT,cH,own,hr,hF⟩:=h;have HA:=Aa hr.at;have hn:=hr.NR;cases hf:Hz s off with
 | none=>
   have HV:Hid (IW ⟨pw,s⟩ off=(⟨pw,s⟩,7)):=Aa (by rw [IW,hf]);have HF:Hid (I7 s off= .tuple #[.int .i64 0,.int .i64 0,.bool false]):=Aa (by rw [I7,hf]);have HS:=Aa ht;clear ht hf hn hr hF;go_enter Tryz.func73,Tryz.ntmps73
   go_wp2_with fail
   refine(Gt HA.out).mono ?_;rintro e w'⟨rfl,rfl⟩
   go_wp2_with fail
   refine(I9 HA.out off ho).mono ?_;rintro e w1⟨rfl,hd⟩;rw [HF.out]
   go_wp2_with fail
   go_ret;rw [HV.out];exact⟨rfl,F,HS.out.dr hd,(AO.refl _ _).dr hd⟩
 | some ia=>
   obtain⟨i,a⟩:=ia;obtain⟨hi,hx, -⟩:=NC hf;have hil:=hi;rw [hn]at hi;have HF:Hid (I7 s off= .tuple #[.int .i64 (i:Int),.int .i64 (a:Int),.bool true]):=Aa (by rw [I7,hf]);have HS:=Aa ht;have HR:=Aa hr;have HFF:=Aa hF;obtain⟨y,hy1⟩:∃y,(Eb (hdN s i) a).1=y:=⟨_,rfl⟩;have hyl:y<18446744073709551616:=by rw [<-hy1];exact UM _ _ (JJ s i) (by omega)
   have HD:=Aa (UN (hdN s i) a · (JJ s i) (by omega));rw [hy1]at HD;cases hb1:(Eb (hdN s i) a).2
   ·rw [hb1]at HD;obtain⟨x,hx1⟩:∃x,(Eb (GR s i) a).1=x:=⟨_,rfl⟩;have hxl:x<18446744073709551616:=by rw [<-hx1];exact UM _ _ (PO s i) (by omega)
    have HE:=Aa (UN (GR s i) a · (PO s i) (by omega));rw [hx1]at HE;cases hb2:(Eb (GR s i) a).2
    ·rw [hb2]at HE;have HV:Hid (IW ⟨pw,s⟩ off=(⟨pw,s⟩,7)):=Aa (by rw [IW,hf];simp [hb1,hb2]);clear ht hf hn hr hF hb1 hb2 hx1 hy1;go_enter Tryz.func73,Tryz.ntmps73
     go_wp2_with fail
     refine(Gt HA.out).mono ?_;rintro e w'⟨rfl,rfl⟩
     go_wp2_with fail
     refine(I9 HA.out off ho).mono ?_;rintro e w1⟨rfl,hd⟩;rw [HF.out];have ha:=HA.out.dr hd;have y5:=ha.y5;have y6:=ha.y6;have c1:=ha.tk i hi;have c2:=ha.hd i hi;clear ha
     go_wp2_with fail
     refine(HD.out _).mono ?_;rintro e w'⟨rfl,hd'⟩;replace hd:=hd.trans hd';clear y5 y6 c1 c2 hd';have ha:=HA.out.dr hd;have y5:=ha.y5;have y6:=ha.y6;have c1:=ha.tk i hi;have c2:=ha.hd i hi;clear ha
     go_wp2_with fail
     refine(HE.out _).mono ?_;rintro e w'⟨rfl,hd'⟩;replace hd:=hd.trans hd';clear y5 y6 c1 c2 hd'
     go_wp2_with fail
     go_ret;rw [HV.out];exact⟨rfl,F,HS.out.dr hd,(AO.refl _ _).dr hd⟩
    ·rw [hb2]at HE;have HV:Hid (IW ⟨pw,s⟩ off=OT ⟨pw,s⟩ i (AA x)):=Aa (by rw [IW,hf];simp [hb1,hb2,hx1]);have HP:=Aa (fun W(k:Dr w W)=>dH (q:=⟨pw,s⟩) (ht.dr k) i x hil hxl);clear ht hf hn hr hF hb1 hb2 hx1 hy1;go_enter Tryz.func73,Tryz.ntmps73
     go_wp2_with fail
     refine(Gt HA.out).mono ?_;rintro e w'⟨rfl,rfl⟩
     go_wp2_with fail
     refine(I9 HA.out off ho).mono ?_;rintro e w1⟨rfl,hd⟩;rw [HF.out];have ha:=HA.out.dr hd;have y5:=ha.y5;have y6:=ha.y6;have c1:=ha.tk i hi;have c2:=ha.hd i hi;clear ha
     go_wp2_with fail
     refine(HD.out _).mono ?_;rintro e w'⟨rfl,hd'⟩;replace hd:=hd.trans hd';clear y5 y6 c1 c2 hd';have ha:=HA.out.dr hd;have y5:=ha.y5;have y6:=ha.y6;have c1:=ha.tk i hi;have c2:=ha.hd i hi;clear ha
     go_wp2_with fail
     refine(HE.out _).mono ?_;rintro e w'⟨rfl,hd'⟩;replace hd:=hd.trans hd';clear y5 y6 c1 c2 hd'
     go_wp2_with fail
     refine(HP.out _ hd).mono ?_;rintro e w2⟨rfl,F2,hs2,hm2⟩
     go_wp2_with fail
     go_ret;rw [HV.out];exact⟨rfl,F2,hs2,((AO.refl F w).dr hd).trans hm2⟩
   ·have HV:Hid (IW ⟨pw,s⟩ off=(⟨pw,{s with hd:=s.hd.set i (AA y)}⟩,0)):=Aa (by rw [IW,hf];simp [hb1,hy1]);refine(dJ ht off ho hf hb1).mono ?_;rintro e w'⟨rfl,h1,h2⟩;rw [HV.out];rw [hy1]at h1;exact⟨rfl,F,h1,h2⟩
theorem VD(h:Sys w d p L s F)(off:Int)(ho: -9223372036854775808<=off/\off<=9223372036854775807):
 Calls Tryz.prog 73 #[Aw p,.int .i64 off] w fun e w'=>e= .returned (.int .i64 (J4 s off).2)/\∃F',Sys w' d p L (J4 s off).1 F'/\AO F F' w w':=by
 have:=TR (q:=⟨.up (-1),s⟩) h off ho;rw [VC]at this;exact this
end
theorem dK(k:Nat)(w:World)(hk:k<=10000):Calls Tryz.prog 75 #[.int .i64 (k:Int)] w fun e w'=>e= .returned (.int .i64 (JD k:Nat))/\w=w':=by
 have e1:((k:Int)+8-1)/8=(((k+7)/8:Nat):Int):=by omega
 have e2:(2:Int)+(((k+7)/8:Nat):Int)=(JD k:Nat):=by unfold JD;omega
 have hb:(k+7)/8<=2000:=by omega
 generalize(k+7)/8=q at*;go_enter Tryz.func75,Tryz.ntmps75;go_wp2;go_ret;exact⟨by rw [<-e2];simp [e1],rfl⟩
theorem Ae1(k b:Nat)(w:World)(hk:k<=10000)(hb:w.cell? ⟨b,0,none⟩=some (.func (.func 75) #[] #[])):
 Calls Tryz.prog 76 #[.int .i64 (k:Int),Aw b] w fun e w'=>e= .returned (.int .i64 (Nu k:Nat))/\w=w':=by
 have hq:JD k<=3000:=by unfold JD;omega
 have HA:=Aa (dK k w hk);have e2:((JD k:Nat):Int)+16*(k:Int)=(Nu k:Nat):=by unfold Nu;omega
 generalize JD k=q at*;go_enter Tryz.func76,Tryz.ntmps76
 go_wp2_with fail
 refine HA.out.mono ?_;rintro e w'⟨rfl,rfl⟩
 go_wp2_with fail
 go_ret;exact⟨by rw [<-e2];rfl,rfl⟩
def ofV(L:Nat):Value:=match shapeOf L with
 | some sh=> .tuple #[.agg #[.int .i64 (sh.lines:Nat),.int .i64 (sh.BI:Nat),.int .i64 (sh.table:Nat),.int .i64 (sh.data:Nat)],.bool true]
 | none=> .tuple #[.agg #[.int .i64 0,.int .i64 0,.int .i64 0,.int .i64 0],.bool false]
theorem iR(L k:Nat)(hk:k<L)(h:Nu (k+1)<=L):JC L (L-k) k=JC L (L- (k+1)) (k+1):=by
 obtain⟨f,hf⟩:∃f,L-k=f+1:=⟨L-k-1,by omega⟩;rw [hf,show L- (k+1)=f by omega,JC,if_pos h]
theorem iT(L k:Nat)(h:¬Nu (k+1)<=L):JC L (L-k) k=k:=by
 cases hf:L-k with
 | zero=>rfl
 | succ f=>rw [JC,if_neg h]
theorem uP{P:Program}(a:Addr)(F:Fn)(fs cs:Array Value)(w:World):(store a (.func F fs cs)).run P w=stored P w a (.func F fs cs) .plain:=run_store P w a _ .plain rfl
theorem dL{Q:Ending->World->Prop}{W:World}{tmps:Array Value}(g:Nat){a b c d:Value}(h:CG W g 35 [a,b,c,d])(v:Value)(h2:tmps[2]? =some (Aw g))(h3:tmps[3]? =some v)
 (hq:Q (.returned (.tuple #[.agg #[a,b,c,d],v])) W):bodyPost Tryz.prog Tryz.f34 Q Exit.ret {tmps:=tmps,defers:=[]} W:=by
 obtain⟨y0,y1,y2,y3,f0,f1,f2,f3⟩:=C9 h;have hu:=run_underlying (P:=Tryz.prog) Tryz.underlying35;refine bodyPost_ret (v:= .tuple #[.agg #[a,b,c,d],v]) (by simp [results,Tryz.results34,go_sem,h2,h3,y0,y1,y2,y3]) rfl hq
theorem PQ(L:Nat)(w:World)(hL:L<=1024):Calls Tryz.prog 34 #[.int .i64 (L:Int)] w fun e w'=>e= .returned (ofV L)/\Below w.heap.size w w':=by
 have t1:decide ((1024:Int)<(L:Int))=false:=decide_eq_false (by omega);have B0:CG (w.alloc (.cells #[.int .i64 0,.int .i64 0,.int .i64 0,.int .i64 0] 35)) w.heap.size 35 [.int .i64 0,.int .i64 0,.int .i64 0,.int .i64 0]:=heap_alloc_new _ _;have hs0:(w.alloc (.cells #[.int .i64 0,.int .i64 0,.int .i64 0,.int .i64 0] 35)).heap.size=w.heap.size+1:=by simp
 have B1:CG ((w.alloc (.cells #[.int .i64 0,.int .i64 0,.int .i64 0,.int .i64 0] 35)).alloc (.cells #[.nilFunc] 131)) (w.heap.size+1) 131 [.nilFunc]:=by rw [<-hs0];exact heap_alloc_new _ _
 have c1:=B1.cell 0;have f1:=B1.frozen 0;simp only [List.getElem?_cons_zero]at c1;have sf:=fun a fs cs W=>uP (P:=Tryz.prog) a (.func 75) fs cs W
 go_enter Tryz.func34,Tryz.ntmps34
 go_wp2_with fail
 obtain⟨W,hW⟩:∃W,W=((w.alloc (.cells #[.int .i64 0,.int .i64 0,.int .i64 0,.int .i64 0] 35)).alloc (.cells #[.func (.func 75) #[] #[]] 131)):=⟨_,rfl⟩;rw [<-hW];have k1:CG W (w.heap.size+1) 131 [.func (.func 75) #[] #[]]:=by rw [hW,<-hs0];exact heap_alloc_new _ _
 have k0:CG W w.heap.size 35 [.int .i64 0,.int .i64 0,.int .i64 0,.int .i64 0]:=by
  rw [hW];exact(heap_alloc_old _ _ (by omega)).trans B0
 have hbW:Below w.heap.size w W:=by rw [hW];exact(((Below.refl _ _).alloc (Ad _) _).alloc (by simp) _)
 have K1:=Aa (k1.cell 0);have K0:=Aa k0;have HB:=Aa hbW;clear B0 B1 c1 f1 hW k1 k0 hs0 hbW
 go_loopw [6](fun i wr=>∃k,k<=L/\i= .int .i64 (k:Nat)/\wr=W/\JC L (L-k) k=PH L)(fun i _=>L- (intOf i).toNat)
 case atStart=>exact⟨0,BK _,rfl,rfl,by rw [Nat.sub_zero];rfl⟩
 case round=>
  obtain⟨k,hk,rfl,rfl,hS⟩:=hrel;have HN:=Aa (Ae1 (k+1) (w.heap.size+1) wr (by omega) (by have:=K1.out;simpa using this));by_cases h1:Nu (k+1)<=L
  ·have hk1:k<L:=by unfold Nu at h1;omega
   have t2:decide (((Nu (k+1):Nat):Int)<=(L:Int))=true:=decide_eq_true (by omega);have t2':decide (Nu (k+1)<=L)=true:=decide_eq_true (by omega);have HS:Hid (JC L (L- (k+1)) (k+1)=PH L):=Aa (by rw [<-iR L k hk1 h1];exact hS);generalize Nu (k+1)=nd at*;clear hS
   go_wp2_with fail
   rw [show(k:Int)+1=((k+1:Nat):Int)by omega];refine HN.out.mono ?_;rintro e w'⟨rfl,rfl⟩
   go_wp2_with fail
   go_roundw
   case rel=>exact⟨k+1,by omega,by go_num,trivial,HS.out⟩
   case measure=>simp [intOf];omega
  ·have hkS:PH L=k:=by rw [<-hS];exact iT L k h1
   obtain⟨nd,hnd⟩:∃nd,Nu (k+1)=nd:=⟨_,rfl⟩;rw [hnd]at HN h1;have t2:decide ((nd:Int)<=(L:Int))=false:=decide_eq_false (by omega);have t2':decide (nd<=L)=false:=decide_eq_false (by omega);clear hS h1 hnd;have HA:=Aa (dK k wr (by omega));obtain⟨y0,y1,y2,y3,f0,f1,f2,f3⟩:=C9 K0.out;by_cases h0:k=0
   ·subst h0;have HV:Hid (ofV L= .tuple #[.agg #[.int .i64 0,.int .i64 0,.int .i64 0,.int .i64 0],.bool false]):=Aa (by
     unfold ofV shapeOf;rw [if_neg (by omega)];simp [hkS])
    have HN0:=HN.out;rw [show(((0+1:Nat)):Int)=1 from rfl]at HN0;have HN0:=Aa HN0;clear hkS
    go_wp2_with fail
    refine HN0.out.mono ?_;rintro e w'⟨rfl,rfl⟩
    go_wp2_with fail
    have k9:=(((K0.out.AZ 0 (.int .i64 0)).AZ 1 (.int .i64 0)).AZ 2 (.int .i64 0)).AZ 3 (.int .i64 0);have b9:=(((HB.out.setCell (p:=⟨w.heap.size,0,none⟩) (Ad _) (.int .i64 0)).setCell (p:=⟨w.heap.size,1,none⟩) (Ad _) (.int .i64 0)).setCell (p:=⟨w.heap.size,2,none⟩) (Ad _) (.int .i64 0)).setCell (p:=⟨w.heap.size,3,none⟩) (Ad _) (.int .i64 0);refine dL w.heap.size k9 (.bool false) rfl rfl ?_;exact⟨by rw [HV.out],b9⟩
   ·have HV:Hid (ofV L= .tuple #[.agg #[.int .i64 (L:Nat),.int .i64 (k:Nat),.int .i64 128,.int .i64 ((64*JD k:Nat):Int)],.bool true]):=Aa (by
    unfold ofV shapeOf;rw [if_neg (by omega)];simp [hkS,h0,Nat.mul_comm])
    have t3:((k:Int)==0)=false:=by rw [beq_eq_false_iff_ne];omega
    have hah:JD k<=3000:=by unfold JD;omega
    have k1:wr.cell? ⟨w.heap.size+1,0,none⟩=some (.func (.func 75) #[] #[]):=by have:=K1.out;simpa using this
    generalize JD k=ah at*;clear hkS
    go_wp2_with fail
    rw [show(k:Int)+1=((k+1:Nat):Int)by omega];refine HN.out.mono ?_;rintro e w'⟨rfl,rfl⟩
    go_wp2_with fail
    refine HA.out.mono ?_;rintro e w'⟨rfl,rfl⟩
    go_wp2_with fail
    have k9:=(((K0.out.AZ 0 (.int .i64 (L:Int))).AZ 1 (.int .i64 (k:Int))).AZ 2 (.int .i64 128)).AZ 3 (.int .i64 ((ah:Int)*64));have b9:=(((HB.out.setCell (p:=⟨w.heap.size,0,none⟩) (Ad _) (.int .i64 (L:Int))).setCell (p:=⟨w.heap.size,1,none⟩) (Ad _) (.int .i64 (k:Int))).setCell (p:=⟨w.heap.size,2,none⟩) (Ad _) (.int .i64 128)).setCell (p:=⟨w.heap.size,3,none⟩) (Ad _) (.int .i64 ((ah:Int)*64));refine dL w.heap.size k9 (.bool true) rfl rfl ?_;exact⟨by rw [HV.out];simp [Int.mul_comm],b9⟩
def rW(sh:Sh):Value:= .agg #[.int .i64 (sh.lines:Nat),.int .i64 (sh.BI:Nat),.int .i64 (sh.table:Nat),.int .i64 (sh.data:Nat)]
theorem Aba(x:Nat)(hx:x<18446744073709551616):wv (AA x)= .int .u64 (x:Int):=by
 simp only [wv,Jq];rw [FZ hx]
theorem Tj:∀n,leBytes (BB n (0:UInt64))=BB (8*n) (0:UInt8)
 | 0=>rfl
 | n+1=>by
   rw [Uw,leBytes,Tj n,show V4 0=BB 8 (0:UInt8)by decide,List.replicate_append_replicate,show 8+8*n=8*(n+1)by omega]
def Qz(H:List UInt64)(k:Nat):List UInt64:=H.take k++BB (H.length-k) 0
theorem iU(H:List UInt64)(k:Nat)(hk:k<=H.length):(Qz H k).length=H.length:=by simp [Qz];omega
theorem Abb(H:List UInt64)(k:Nat)(hk:k<H.length):(Qz H k).set k H[k]=Qz H (k+1):=by
 obtain⟨r,hr⟩:∃r,H.length-k=r+1:=⟨H.length-k-1,by omega⟩;unfold Qz;rw [hr,show H.length- (k+1)=r by omega,SN _ _ (by simp;omega)];simp only [List.length_take,Nat.min_eq_left (Nat.le_of_lt hk),Nat.sub_self,Uw,List.set_cons_zero];rw [List.take_succ_eq_append_getElem hk,List.append_assoc];rfl
theorem Abc(H:List UInt64):Qz H H.length=H:=by simp [Qz]
theorem Tm(sh:Sh)(w:World)(hL:sh.lines<=1024)(hs:shapeOf sh.lines=some sh)(hT:Aic w):Calls Tryz.prog 36 #[rW sh] w fun e w'=>∃v,e= .returned v/\w'.ownsRow w.heap.size 28 1 v 8 ((wordsOf sh).map wv)/\Below w.heap.size w w':=by
 have hOf:=fun W=>PQ sh.lines W hL
 have HV:Hid (ofV sh.lines= .tuple #[rW sh,.bool true]):=Aa (by rw [ofV,hs];rfl);have nC:=Aa hOf;have ok:=FI hs;have b1:=ok.fits;obtain⟨sl,hsl⟩:∃x,sh.BI=x:=⟨_,rfl⟩;obtain⟨tb,htb⟩:∃x,sh.table=x:=⟨_,rfl⟩;obtain⟨dt,hdt⟩:∃x,sh.data=x:=⟨_,rfl⟩;obtain⟨li,uQ⟩:∃x,sh.lines=x:=⟨_,rfl⟩;have hv:rW sh= .agg #[.int .i64 (li:Int),.int .i64 (sl:Int),.int .i64 (tb:Int),.int .i64 (dt:Int)]:=by rw [rW,hsl,htb,hdt,uQ]
 rw [hv]at HV⊢;rw [uQ]at HV nC hL;clear hOf hv;go_enter Tryz.func36,Tryz.ntmps36
 go_wp2_with fail
 have B0:CG (w.alloc (.cells #[.int .i64 (li:Int),.int .i64 (sl:Int),.int .i64 (tb:Int),.int .i64 (dt:Int)] 35)) w.heap.size 35 [.int .i64 (li:Int),.int .i64 (sl:Int),.int .i64 (tb:Int),.int .i64 (dt:Int)]:=heap_alloc_new _ _;refine(nC.out _).mono ?_;rintro e w1⟨rfl,hb1⟩;have B1:=B0.below hb1 (by simp);have FW:Below w.heap.size w w1:=((Below.refl _ _).alloc (Ad _) _).trans (hb1.mono (by simp));have hg1:w.heap.size<w1.heap.size:=B1.lt;obtain⟨y0,y1,y2,y3,f0,f1,f2,f3⟩:=C9 B1;clear hb1 B0 f0 f1 f2 f3;rw [HV.out];obtain⟨i0,hi,hz0,hz1,hz2⟩:=info_parts Tryz.infoByte;obtain⟨H,hH⟩:∃H,headW sh=H:=⟨_,rfl⟩;have hHl:H.length=6:=by rw [<-hH];rfl
 have hrow:[Value.int .u64 465675318387,.int .u64 1,.int .u64 (li:Int),.int .u64 (sl:Int),.int .u64 (tb:Int),.int .u64 (dt:Int),.int .u64 0,.int .u64 0]=(H++[0,0]).map wv:=by
  have e:∀x:Nat,x<1000000->((AA x).toNat:Int)=(x:Int):=fun x hx=>by rw [Jq,FZ (by omega)]
  have h1:=e li (by omega);have h2:=e sl (by have:=ok.fits;omega);have h3:=e tb (by have:=ok.table;omega);have h4:=e dt (by have:=ok.fits;omega);rw [<-hH,headW,uQ,hsl,htb,hdt];simp only [List.cons_append,Fz,List.map_cons,List.map_nil,wv,h1,h2,h3,h4];rfl
 have hb2:sl<=1000000:=by have:=ok.fits;omega
 have hb3:tb<=1000000:=by have:=ok.table;omega
 have hb4:dt<=1000000:=by have:=ok.fits;omega
 have iV:=Aa hrow;have HHd:=Aa hH;clear hrow hH ok b1 hsl htb hdt hs
 go_wp2_with(at_make;go_loud(refine wpList_make_full _ rfl _ _ 22 rfl w.heap.size 5 i0 (.int .u8 0) 1 Tryz.underlying22 hi hz0 hz1 .i64 .i64 _ _ 48 rfl rfl rfl rfl (by rw [hz2];decide) (by decide) (by simp;omega) ?_);intro w0 hown0 hgrow0)
 obtain⟨W2,hW2⟩:∃W2,W2=(w1.alloc (.cells #[.int .i64 (li:Int),.int .i64 (sl:Int),.int .i64 (tb:Int),.int .i64 (dt:Int)] 35)).alloc (.cells #[.int .u64 465675318387,.int .u64 1,.int .u64 (li:Int),.int .u64 (sl:Int),.int .u64 (tb:Int),.int .u64 (dt:Int),.int .u64 0,.int .u64 0] 28):=⟨_,rfl⟩;have hL0:CG W2 (w1.heap.size+1) 28 ((H++[0,0]).map wv):=by
  have e:(w1.alloc (.cells #[.int .i64 (li:Int),.int .i64 (sl:Int),.int .i64 (tb:Int),.int .i64 (dt:Int)] 35)).heap.size=w1.heap.size+1:=by simp
  rw [<-iV.out,<-e,hW2];exact heap_alloc_new _ _
 have hbW2:Below w.heap.size w W2:=by rw [hW2];exact(FW.alloc (by omega) _).alloc (by simp;omega) _
 rw [<-hW2]at hgrow0 hown0;have hs2:W2.heap.size=w1.heap.size+1+1:=by rw [hW2];simp
 rw [hs2]at hown0;have hlt0:=hL0.lt;have Al0:Below W2.heap.size W2 w0:=(Below.refl _ _).grown hgrow0 (Ad _) (by simp);rw [PD,show BB 48 (0:UInt8)=leBytes (Qz H 0)by rw [Qz,List.take_zero,Fz,hHl,Tj]]at hown0;have HL0:=Aa hL0;have HB2:=Aa hbW2;clear hL0 hbW2 hgrow0 hW2 y0 y1 y2 y3 B1 FW
 go_loopw [6,39](fun b i wr=>∃k g c,k<=6/\i= .int .i64 (k:Nat)/\b= .slice (some ⟨g,0,none⟩) 48 c/\wr.ownsRow w.heap.size 5 1 (.slice (some ⟨g,0,none⟩) 48 c) 48 ((leBytes (Qz H k)).map bv)/\Below W2.heap.size W2 wr)(fun _ i _=>6- (intOf i).toNat)
 case atStart=>
  refine⟨0,_,_,BK _,rfl,rfl,hown0,Al0⟩
 case round=>
  obtain⟨k,g,c,hk,rfl,rfl,hown,hbr⟩:=hrel;clear hown0 Al0;have hL1:=HL0.out.below hbr hlt0;by_cases hlt:k<6
  ·have hkH:k<H.length:=by omega
   have c1:=hL1.cell k;have ek:((H++[0,0]).map wv)[k]? =some (.int .u64 (H[k].toNat:Int)):=by
    rw [BZ,List.getElem?_append_left hkH,Af hkH];rfl
   rw [ek]at c1;have PR:=Aa (WV (some ⟨g,0,none⟩) 48 c k (Qz H k) H[k] wr (by decide) (CB hown).2 (by rw [iU H k (by omega)];omega));have Abd:=Aa (Abb H k hkH);generalize H[k]=x at*;have Ob:=Aa hbr;clear hL1 ek hown hbr
   go_wp2_with fail
   refine PR.out.mono ?_;rintro e w2⟨g2,c2,rfl,hown2,hb2'⟩;rw [Abd.out]at hown2;have QB:=Aa (EM (base':=w.heap.size) hown2 (Nat.le_trans HB2.out.size Ob.out.size));have HB3:=Aa (Ob.out.trans (hb2'.mono Ob.out.size));clear hown2 hb2' PR
   go_wp2_with fail
   go_roundw
   case rel=>exact⟨k+1,g2,c2,by omega,by go_num,rfl,QB.out,HB3.out⟩
   case measure=>simp [intOf];omega
  ·have hk6:k=6:=by omega
   subst hk6;rw [show Qz H 6=H by rw [<-hHl];exact Abc H]at hown;have hTw:Aic wr:=fun j hj=>(hbr.cell (p:=⟨0,j,none⟩) (Nat.lt_of_lt_of_le (Dz w _ (hT j hj)) HB2.out.size)).trans ((HB2.out.cell (p:=⟨0,j,none⟩) (Dz w _ (hT j hj))).trans (hT j hj))
   have Atl:=Aa (uq (some ⟨g,0,none⟩) 48 c (leBytes H) wr (by decide) (CB hown).2 hTw);have hcr:L6 0 (leBytes H)<4294967296:=by
    unfold L6;have:=Y5 0 (leBytes H) (by decide) (leBytes H).length (Ad _);rw [OI,List.take_length]at this;exact Nat.xor_lt_two_pow (n:=32) this (by decide)
   have uS:Hid (wordsOf sh=H++[AA (L6 0 (leBytes H)),0]):=Aa (by rw [wordsOf,HHd.out]);generalize L6 0 (leBytes H)=cr at*;have hL1':=hL1;have c6:=hL1.cell 6;rw [BZ,List.getElem?_append_right (by omega),hHl]at c6;have f6:=hL1.frozen 6;have HL1:=Aa hL1;have Ob:=Aa hbr;clear hL1 hL1' hown hbr hTw
   go_wp2_with fail
   refine Atl.out.mono ?_;rintro e w'⟨rfl,rfl⟩
   go_wp2_with fail
   trace_state
   go_ret;have hL2:=HL1.out.AZ 6 (.int .u64 (cr:Int));have e1:((H++[0,0]).map wv).set 6 (.int .u64 (cr:Int))=(wordsOf sh).map wv:=by
    rw [uS.out,<-Aba cr (by omega),<-List.map_set,SN _ _ (by omega),hHl];rfl
   rw [e1]at hL2;have Aky:=hL2.own (B:=w.heap.size) (by omega) (by rw [BH,uS.out];simp [hHl];decide);have hl8:((wordsOf sh).map wv).length=8:=by rw [BH,uS.out];simp [hHl]
   rw [hl8]at Aky;exact⟨_,rfl,Aky,(HB2.out.trans (Ob.out.mono HB2.out.size)).setCell (p:=⟨w1.heap.size+1,6,none⟩) (by show w.heap.size<=w1.heap.size+1;omega) _⟩
theorem ND{Q:Ending->World->Prop}{W:World}{tmps:Array Value}{fn:Func}(hr:fn.results= #[.cell 2 35,.tmp 3])(g:Nat){a b c d:Value}(h:CG W g 35 [a,b,c,d])(v:Value)(h2:tmps[2]? =some (Aw g))(h3:tmps[3]? =some v)
 (hq:Q (.returned (.tuple #[.agg #[a,b,c,d],v])) W):bodyPost Tryz.prog fn Q Exit.ret {tmps:=tmps,defers:=[]} W:=by
 obtain⟨y0,y1,y2,y3,f0,f1,f2,f3⟩:=C9 h;have hu:=run_underlying (P:=Tryz.prog) Tryz.underlying35;refine bodyPost_ret (v:= .tuple #[.agg #[a,b,c,d],v]) (by simp [results,hr,go_sem,h2,h3,y0,y1,y2,y3]) rfl hq
theorem Dev.box{w:World}{d L:Nat}{ws:Nat->UInt64}{len:Mode}{mark:Nat->Nat}{own:Nat->Prop}(h:Dev w d L ws len mark own):∃g v1 v2 v3,CG w d 78 [.slice (some ⟨g,0,none⟩) L L,v1,v2,v3]:=by
 obtain⟨g,hb,hr,_⟩:=h;obtain⟨st,hbx⟩:=hr.box;exact⟨g,_,_,_,hbx⟩
theorem Dev.size{w:World}{d L:Nat}{ws:Nat->UInt64}{len:Mode}{mark:Nat->Nat}{own:Nat->Prop}(h:Dev w d L ws len mark own)(hL:L<=1024):Calls Tryz.prog 32 #[Aw d] w fun e w'=>e= .returned (.int .i64 ((L*64:Nat):Int))/\w=w':=by
 obtain⟨g,_,_,_,hbx⟩:=h.box;exact N8 d L g _ _ _ w hL hbx
theorem uT{w:World}{d L:Nat}{ws:Nat->UInt64}{own:Nat->Prop}{sh:Sh}(hL0:0<L)(hL:L<=1024)(hs:shapeOf L=some sh)(h:Dev w d L ws M0 (fun _=>0) own)(hT:Tabs w)(g1:¬own 0)(g2:¬own 1):
 Calls Tryz.prog 90 #[Aw d] w fun e w'=>e= .returned (.tuple #[rW sh,.int .i64 0])/\
  ∃own',Dev w' d L (BQ (BQ ws 0 (BB (8*L) 0)) 0 (wordsOf sh)) M0 (fun _=>0) own'/\AO own own' w w':=by
 have ok:=FI hs;have uQ:=ok.lines;have hlt:=h.lt;obtain⟨N,hN⟩:∃N,N=L*64:=⟨_,rfl⟩;have ax:=Aa (fun W(h:Dev W d L ws M0 (fun _=>0) own)=>by have:=h.size hL;rw [<-hN]at this;exact this);have e1:(N:Int)/64=(L:Int):=by omega
 have t1:((L:Int)==0)=false:=by rw [beq_eq_false_iff_ne];omega
 have nC:=Aa (fun W=>PQ L W hL);have HV:Hid (ofV L= .tuple #[rW sh,.bool true]):=Aa (by rw [ofV,hs];rfl);obtain⟨v0,v1,v2,v3,hsv⟩:∃v0 v1 v2 v3:Nat,rW sh= .agg #[.int .i64 (v0:Int),.int .i64 (v1:Int),.int .i64 (v2:Int),.int .i64 (v3:Int)]:=⟨_,_,_,_,rfl⟩;have HSV:=Aa hsv;rw [hsv]at HV;have B0:CG (w.alloc (.cells #[.int .i64 0,.int .i64 0,.int .i64 0,.int .i64 0] 35)) w.heap.size 35 [.int .i64 0,.int .i64 0,.int .i64 0,.int .i64 0]:=heap_alloc_new _ _;have hb0:Below w.heap.size w (w.alloc (.cells #[.int .i64 0,.int .i64 0,.int .i64 0,.int .i64 0] 35)):=(Below.refl _ _).alloc (Ad _) _;have HD:=Aa h;clear h hN hsv;go_enter Tryz.func90,Tryz.ntmps90
 go_wp2_with fail
 obtain⟨W0,hW0⟩:∃W0,W0=w.alloc (.cells #[.int .i64 0,.int .i64 0,.int .i64 0,.int .i64 0] 35):=⟨_,rfl⟩;rw [<-hW0]at B0 hb0⊢;have hlt0:w.heap.size<W0.heap.size:=B0.lt;clear hW0;refine(ax.out _ (HD.out.below hb0)).mono ?_;rintro e w'⟨rfl,rfl⟩
 go_wp2_with fail
 refine(nC.out _).mono ?_;rintro e w1⟨rfl,hb1⟩;rw [HV.out];have FW:=hb0.trans (hb1.mono hb0.size);have B1:=B0.below hb1 hlt0;have HB1:=Aa FW;have UQ:=Aa B1;clear hb0 hb1 B0 B1 FW
 go_wp2_with fail
 obtain⟨W2,hW2⟩:∃W2,W2=w1.alloc (.cells #[.int .i64 (v0:Int),.int .i64 (v1:Int),.int .i64 (v2:Int),.int .i64 (v3:Int)] 35):=⟨_,rfl⟩;have hS2:CG W2 w1.heap.size 35 [.int .i64 (v0:Int),.int .i64 (v1:Int),.int .i64 (v2:Int),.int .i64 (v3:Int)]:=by rw [hW2];exact heap_alloc_new _ _
 have GX:Below w1.heap.size w1 W2:=by rw [hW2];exact(Below.refl _ _).alloc (Ad _) _
 have hR2:=UQ.out.below GX UQ.out.lt;have Eu:=HB1.out.trans (GX.mono HB1.out.size);have hw1:w.heap.size<=w1.heap.size:=HB1.out.size;have hD2:=HD.out.below Eu;have hT2:=hT.below Eu;rw [<-hW2];clear hW2 GX;have HR2:=Aa hR2;have HS2:=Aa hS2;have HB2:=Aa Eu;have HT2:=Aa hT2;have QD:=Aa (Aa9 hL0 hL hD2);clear hR2 hS2 Eu hT2 hD2;refine QD.out.mono ?_;rintro e w3⟨rfl,Aez,hD3,ht3,ho3⟩;have nr:¬own w.heap.size:=fun h=>by have:=hlt _ h;omega
 have ns:¬own w1.heap.size:=fun h=>by have:=hlt _ h;omega
 have hR3:=HR2.out.touch ht3 nr;have hS3:=HS2.out.touch ht3 ns;have hT3:=HT2.out.keep (ht3.block _ HT2.out.lt.1 g1) (ht3.block _ HT2.out.lt.2 g2);have hM3:AO own Aez w w3:=(AO.of_below HB2.out).trans ⟨ht3,ho3⟩;obtain⟨y0,y1,y2,y3,_,_,_,_⟩:=C9 hS3;have n1:∀b,b<W2.heap.size->¬own b->¬Aez b:=fun b hlt hn h=>(ho3 b h).elim hn (fun h=>by omega)
 have n1r:=n1 _ HR2.out.lt nr;have n1s:=n1 _ HS2.out.lt ns;have HR3:=Aa hR3;have OC:=Aa hS3;have HD3:=Aa hD3;have HM3:=Aa hM3;have uS:=Tm sh w3 (by omega) (by rw [uQ];exact hs) hT3.fours;rw [HSV.out]at uS;have uS:=Aa uS;clear hD3 ht3 ho3 hR3 hS3 hT3 hM3 QD
 go_wp2_with fail
 refine uS.out.mono ?_;rintro e w4⟨v4,rfl,hown4,hb4⟩;obtain⟨A4,c4,rfl,hc4,hr4⟩:=CO hown4;obtain⟨gd,hbd,hrd,hod⟩:=HD3.out;have hD4:Dev w4 d L (BQ ws 0 (BB (8*L) 0)) M0 (fun _=>0) Aez:=⟨gd,hbd,hrd.below hb4,hod⟩;have HP:=Zb hL0 hL hD4 0 8 c4 A4 (wordsOf sh) (by omega) (by decide) hr4;rw [show((8*0:Nat):Int)=0 from rfl]at HP;have HP:=Aa HP;have hR4:=HR3.out.below hb4 HR3.out.lt;have hS4:=OC.out.below hb4 OC.out.lt;have HR4:=Aa hR4;have kN:=Aa hS4;have HM4:=Aa (HM3.out.below hb4);clear hD4 hrd hod hown4 hr4 hb4 hR4 hS4 y0 y1 y2 y3 uS
 go_wp2_with fail
 refine HP.out.mono ?_;rintro e w5⟨rfl,Ae0,hD5,ht5,V8⟩;have YO:=HR4.out.touch ht5 n1r;have hS5:=kN.out.touch ht5 n1s;have QY:=Aa (HM4.out.trans ⟨ht5,V8⟩);have n2r:¬Ae0 w.heap.size:=fun h=>(V8 _ h).elim n1r (fun h=>by have:=HR4.out.lt;omega)
 have HD5:=Aa hD5;obtain⟨y0,y1,y2,y3,_,_,_,_⟩:=C9 hS5;obtain⟨z0,z1,z2,z3,f0,f1,f2,f3⟩:=C9 YO;have rV:=Aa YO;clear hD5 ht5 V8 YO hS5 HP
 go_wp2_with fail
 have k9:=(((rV.out.AZ 0 (.int .i64 (v0:Int))).AZ 1 (.int .i64 (v1:Int))).AZ 2 (.int .i64 (v2:Int))).AZ 3 (.int .i64 (v3:Int));have t9:Touch (fun b=>b=w.heap.size) w5 ((((w5.setCell ⟨w.heap.size,0,none⟩ (.int .i64 (v0:Int))).setCell ⟨w.heap.size,1,none⟩ (.int .i64 (v1:Int))).setCell ⟨w.heap.size,2,none⟩ (.int .i64 (v2:Int))).setCell ⟨w.heap.size,3,none⟩ (.int .i64 (v3:Int))):=
  ((((Touch.refl (fun b=>b=w.heap.size) w5).setCell (p:=⟨w.heap.size,0,none⟩) (.inl rfl) _).setCell (p:=⟨w.heap.size,1,none⟩) (.inl rfl) _).setCell (p:=⟨w.heap.size,2,none⟩) (.inl rfl) _).setCell (p:=⟨w.heap.size,3,none⟩) (.inl rfl) _
 refine ND rfl w.heap.size k9 (.int .i64 0) rfl rfl ?_;refine⟨by rw [HSV.out],Ae0,HD5.out.touch t9 (fun b hb e=>n2r (e▸hb)),⟨?_,QY.out.own⟩⟩;exact(QY.out.touch.trans t9 (fun b hb=> .inr (by omega)))
def QZ(ws:Nat->UInt64)(sh:Sh):Value:=if wordsAt ws 0 8=wordsOf sh then .tuple #[rW sh,.int .i64 0]else .tuple #[.agg #[.int .i64 0,.int .i64 0,.int .i64 0,.int .i64 0],.int .i64 5]
theorem S9{len:Mode}{w:World}{d L:Nat}{ws:Nat->UInt64}{own:Nat->Prop}{sh:Sh}(hL0:0<L)(hL:L<=1024)(hs:shapeOf L=some sh)(hu:len.lf≠0)(h:Dev w d L ws len (fun _=>0) own)(hT:Tabs w):
 Calls Tryz.prog 9 #[Aw d] w fun e w'=>e= .returned (QZ ws sh)/\Below w.heap.size w w':=by
 have ok:=FI hs;have uQ:=ok.lines;obtain⟨N,hN⟩:∃N,N=L*64:=⟨_,rfl⟩;have ax:=Aa (fun W(h:Dev W d L ws len (fun _=>0) own)=>by have:=h.size hL;rw [<-hN]at this;exact this);have e1:(N:Int)/64=(L:Int):=by omega
 have t1:((L:Int)==0)=false:=by rw [beq_eq_false_iff_ne];omega
 have nC:=Aa (fun W=>PQ L W hL);have HV:Hid (ofV L= .tuple #[rW sh,.bool true]):=Aa (by rw [ofV,hs];rfl);obtain⟨v0,v1,v2,v3,hsv⟩:∃v0 v1 v2 v3:Nat,rW sh= .agg #[.int .i64 (v0:Int),.int .i64 (v1:Int),.int .i64 (v2:Int),.int .i64 (v3:Int)]:=⟨_,_,_,_,rfl⟩;have HSV:=Aa hsv;rw [hsv]at HV;have B0:CG (w.alloc (.cells #[.int .i64 0,.int .i64 0,.int .i64 0,.int .i64 0] 35)) w.heap.size 35 [.int .i64 0,.int .i64 0,.int .i64 0,.int .i64 0]:=heap_alloc_new _ _;have hb0:Below w.heap.size w (w.alloc (.cells #[.int .i64 0,.int .i64 0,.int .i64 0,.int .i64 0] 35)):=(Below.refl _ _).alloc (Ad _) _;have HD:=Aa h;have HDb:=Aa (fun W(k:Below w.heap.size w W)=>(h.below k:Dev W d L ws len (fun _=>0) own));clear h hN hsv;go_enter Tryz.func9,Tryz.ntmps9
 go_wp2_with fail
 obtain⟨W0,hW0⟩:∃W0,W0=w.alloc (.cells #[.int .i64 0,.int .i64 0,.int .i64 0,.int .i64 0] 35):=⟨_,rfl⟩;rw [<-hW0]at B0 hb0⊢;have hlt0:w.heap.size<W0.heap.size:=B0.lt;clear hW0;refine(ax.out _ (HDb.out _ hb0)).mono ?_;rintro e w'⟨rfl,rfl⟩;obtain⟨gd,hbd,hrd,hod⟩:=HDb.out _ hb0;have HG:=XR d L ws _ _ gd hbd 0 8 W0 hL0 hL hu hrd (by omega);rw [show((8*0:Nat):Int)=0 from rfl]at HG;have HG:=Aa HG;clear hrd hod
 go_wp2_with fail
 refine HG.out.mono ?_;rintro e w1⟨v1',rfl,ho1,hb1⟩;obtain⟨A1,c1,rfl,hc1,hr1⟩:=CO ho1;have FW:=hb0.trans (hb1.mono hb0.size);have B1:=B0.below hb1 hlt0;have HR1:Hid (Ws w1 A1 8 (wordsAt ws 0 8)):=Aa hr1;have HB1:=Aa FW;have UQ:=Aa B1;clear hb0 hb1 B0 B1 FW ho1 hr1 HG
 go_wp2_with fail
 refine(nC.out _).mono ?_;rintro e w2⟨rfl,hb2⟩;rw [HV.out];have Eu:=HB1.out.trans (hb2.mono HB1.out.size);have hlt1:=UQ.out.lt;have uU:=UQ.out.below hb2 hlt1;have hr2:=HR1.out.below hb2;obtain⟨W3,hW3⟩:∃W3,W3=w2.alloc (.cells #[.int .i64 (v0:Int),.int .i64 (v1:Int),.int .i64 (v2:Int),.int .i64 (v3:Int)] 35):=⟨_,rfl⟩;have Gh:Below w2.heap.size w2 W3:=by rw [hW3];exact(Below.refl _ _).alloc (Ad _) _
 have hS3:CG W3 w2.heap.size 35 [.int .i64 (v0:Int),.int .i64 (v1:Int),.int .i64 (v2:Int),.int .i64 (v3:Int)]:=by rw [hW3];exact heap_alloc_new _ _
 have Ap4:=uU.below Gh uU.lt;have Oy:=Eu.trans (Gh.mono Eu.size);have uS:=Tm sh W3 (by omega) (by rw [uQ];exact hs) (hT.below Oy).fours;rw [HSV.out]at uS;have uS:=Aa uS;have HR3:=Aa (hr2.below Gh);have OC:=Aa hS3;have Ae2:=Aa Ap4;have HB3:=Aa Oy;have HW3:=Aa hW3;clear Eu uU hr2 Gh hS3 Ap4 Oy hb2 hW3 UQ HR1
 go_wp2_with fail
 rw [<-HW3.out];refine uS.out.mono ?_;rintro e w4⟨v4,rfl,hown4,hb4⟩;obtain⟨A4,c4,rfl,hc4,hr4⟩:=CO hown4;have HEq:=Aa (PM A1 A4 8 8 c1 c4 (wordsAt ws 0 8) (wordsOf sh) w4 (by decide) (by decide) (HR3.out.below hb4) hr4);have kN:=Aa (OC.out.below hb4 OC.out.lt);have Zi:=Aa (Ae2.out.below hb4 Ae2.out.lt);have HB4:=Aa (HB3.out.trans (hb4.mono HB3.out.size));clear hown4 hr4 hb4 uS;by_cases he:wordsAt ws 0 8=wordsOf sh
 ·rw [decide_eq_true he]at HEq;have HVV:Hid (QZ ws sh= .tuple #[rW sh,.int .i64 0]):=Aa (by rw [QZ,if_pos he]);clear he
  go_wp2_with fail
  refine HEq.out.mono ?_;rintro e w5⟨rfl,q,rfl⟩;have hS5:=kN.out.below ((Dr.one w4 q).below _) kN.out.lt;have YO:=Zi.out.below ((Dr.one w4 q).below _) Zi.out.lt;obtain⟨W5,kP⟩:∃W5,W5=w4.drewN q:=⟨_,rfl⟩;have hb5:Below w.heap.size w W5:=HB4.out.trans ((by rw [kP];exact(Dr.one w4 q).below _));rw [<-kP]at hS5 YO⊢;clear kP;obtain⟨y0,y1,y2,y3,_,_,_,_⟩:=C9 hS5;obtain⟨z0,z1,z2,z3,f0,f1,f2,f3⟩:=C9 YO;have rV:=Aa YO;have Jy:=Aa hb5;clear YO hS5 hb5
  go_wp2_with fail
  have k9:=(((rV.out.AZ 0 (.int .i64 (v0:Int))).AZ 1 (.int .i64 (v1:Int))).AZ 2 (.int .i64 (v2:Int))).AZ 3 (.int .i64 (v3:Int));have b9:=(((Jy.out.setCell (p:=⟨w.heap.size,0,none⟩) (Ad _) (.int .i64 (v0:Int))).setCell (p:=⟨w.heap.size,1,none⟩) (Ad _) (.int .i64 (v1:Int))).setCell (p:=⟨w.heap.size,2,none⟩) (Ad _) (.int .i64 (v2:Int))).setCell (p:=⟨w.heap.size,3,none⟩) (Ad _) (.int .i64 (v3:Int));refine ND rfl w.heap.size k9 (.int .i64 0) rfl rfl ?_;exact⟨by rw [HVV.out,HSV.out],b9⟩
 ·rw [decide_eq_false he]at HEq;have HVV:Hid (QZ ws sh= .tuple #[.agg #[.int .i64 0,.int .i64 0,.int .i64 0,.int .i64 0],.int .i64 5]):=Aa (by rw [QZ,if_neg he]);clear he
  go_wp2_with fail
  refine HEq.out.mono ?_;rintro e w5⟨rfl,q,rfl⟩;have YO:=Zi.out.below ((Dr.one w4 q).below _) Zi.out.lt;obtain⟨W5,kP⟩:∃W5,W5=w4.drewN q:=⟨_,rfl⟩;have hb5:Below w.heap.size w W5:=HB4.out.trans ((by rw [kP];exact(Dr.one w4 q).below _));rw [<-kP]at YO⊢;clear kP;obtain⟨z0,z1,z2,z3,f0,f1,f2,f3⟩:=C9 YO;have rV:=Aa YO;have Jy:=Aa hb5;clear YO hb5
  go_wp2_with fail
  have k9:=(((rV.out.AZ 0 (.int .i64 0)).AZ 1 (.int .i64 0)).AZ 2 (.int .i64 0)).AZ 3 (.int .i64 0);have b9:=(((Jy.out.setCell (p:=⟨w.heap.size,0,none⟩) (Ad _) (.int .i64 0)).setCell (p:=⟨w.heap.size,1,none⟩) (Ad _) (.int .i64 0)).setCell (p:=⟨w.heap.size,2,none⟩) (Ad _) (.int .i64 0)).setCell (p:=⟨w.heap.size,3,none⟩) (Ad _) (.int .i64 0);refine ND rfl w.heap.size k9 (.int .i64 5) rfl rfl ?_;exact⟨by rw [HVV.out],b9⟩
structure Jm where
 s:Ms
 made:List Int
def iW(j n:Nat):Nat:=n+((j+n-1)/8-j/8+1)+1
def Ec(j:Jm)(n:Nd):Jm×UInt64×Int:=
 if !Ci n then(j,0,5)else
 match CQ j.s.s (Dn n)with
 | none=>(j,0,6)
 | some (off,s1)=>
   match XU ⟨j.s.pw,s1⟩ (iW (off/8) (DX n).length) (BQ s1.ws (off/8) (DX n))with
   | (r,c)=>if c=0 then
       match Qy r off with
       | (s2,e)=>if e=0 then(⟨s2,j.made++[(off:Int)]⟩,AA off,0)else(⟨s2,j.made++[(off:Int)]⟩,0,e)
     else(⟨r,j.made++[(off:Int)]⟩,0,c)
def Hg(j:Jm)(n:Nd)(label:UInt8)(kid:UInt64)(e:Int):Jm×UInt64×Int:=
 if e≠0 then(j,0,e)else
 if Jc n label kid then Ec j (H5 n label kid)else(j,0,5)
def KN:Nat->Jm->List UInt8->UInt64->Jm×UInt64×Int
 | 0,j,_,_=>(j,0,5)
 | f+1,j,l,value=>
   if l.length<=15 then Ec j ⟨l,value,[],[]⟩else
   match KN f j (l.drop 16) value with
   | (j1,kid,e)=>Hg j1 ⟨l.take 15,0,[],[]⟩ (l.getD 15 0) kid e
def Jp(j:Jm)(x:Nd)(rest:List UInt8)(value:UInt64):Jm×UInt64×Int:=
 if common x.pre rest=x.pre.length then
  match KN (rest.length+1) j (rest.drop (common x.pre rest+1)) value with
  | (j1,kid,e)=>Hg j1 x (rest.getD (common x.pre rest) 0) kid e
 else
  match Ec j {x with pre:=x.pre.drop (common x.pre rest+1)}with
  | (j1,kid,e)=>
    if common x.pre rest=rest.length then Hg j1 ⟨x.pre.take (common x.pre rest),value,[],[]⟩ (x.pre.getD (common x.pre rest) 0) kid e else
    if e≠0 then(j1,0,e)else
    if Jc ⟨x.pre.take (common x.pre rest),0,[],[]⟩ (x.pre.getD (common x.pre rest) 0) kid then
     match KN (rest.length+1) j1 (rest.drop (common x.pre rest+1)) value with
     | (j2,Y2,e2)=>Hg j2 (H5 ⟨x.pre.take (common x.pre rest),0,[],[]⟩ (x.pre.getD (common x.pre rest) 0) kid) (rest.getD (common x.pre rest) 0) Y2 e2
    else(j1,0,5)
def O0(q:Ms)(l:List Int):Ms:=l.foldl (fun q off=>(IW q off).1) q
def LC:Ms->List Int->Int->Ms×Int
 | q,[],e=>(q,e)
 | q,off::l,e=>LC (IW q off).1 l (if e=0 then(IW q off).2 else e)
def Fa(j:Jm)(e:Int)(word:Int)(name:UInt64)(old:List Int):Ms×Int:=
 if e≠0 then(O0 j.s j.made,e)else
 match XU j.s 3 (Gg j.s.s.ws (word.toNat/8) name)with
 | (r,c)=>if c=0 then LC r old 0 else(O0 r j.made,c)
def NF(q:Ms)(at_:Pl)(n:UInt64):Ms×Int:=XU q 3 (Gg q.s.ws (at_.off.toNat/8+2) n)
def PS(q:Ms)(key:List UInt8)(value:UInt64):Ms×Int:=
 if 16<key.length then(q,3)else if value=0 then(q,2)else
 match FQ q.s key with
 | none=>(q,5)
 | some (way,rest)=>match CX way rest with
   | some last=>NF q last value
   | none=>match way.getLast? with
     | none=>match KN (rest.length+1) ⟨q,[]⟩ rest value with
       | (j,name,e)=>Fa j e 72 name []
     | some last=>match Jp ⟨q,[]⟩ last.nd rest value with
       | (j,name,e)=>Fa j e last.word name [last.off]
def O4(j:Jm)(way:List Pl):Ms×Int:=
 match Hw way (way.length-1) [(way.getLast?.map (·.off)).getD 0]with
 | (0,old)=>Fa j 0 72 0 old
 | (a+1,old)=>match way[a]?,way[a+1]? with
   | some up,some at_=>match Jr up.nd.labels at_.label with
     | some i=>if Ci up.nd then match Ec j (V5 up.nd i)with
      | (j1,name,e)=>Fa j1 e up.word name (old++[up.off])
       else(j.s,5)
     | none=>(j.s,5)
   | _,_=>(j.s,5)
def Rf(q:Ms)(key:List UInt8):Ms×UInt64×Int:=
 if 16<key.length then(q,0,3)else
 match FQ q.s key with
 | none=>(q,0,5)
 | some (way,rest)=>match CX way rest with
   | none=>(q,0,7)
   | some last=>if last.nd.val=0 then(q,0,7)else
     match(if last.nd.kids.length=0 then O4 ⟨q,[]⟩ way else(q,6))with
     | (q1,e)=>if e=6 then match NF q1 last 0 with
      | (q2,c)=>if c=0 then(q2,last.nd.val,0)else(q2,0,c)
       else if e=0 then(q1,last.nd.val,0)else(q1,0,e)
def rX(j:Jb):Jm:=⟨⟨.up (-1),j.s⟩,j.made⟩
theorem PT(j:Jb)(n:Nd):Ec (rX j) n=(rX (MI j n).1,(MI j n).2):=by
 unfold Ec MI;cases Ci n
 ·rfl
 ·simp only [Bool.not_true,Bool.false_eq_true,if_false,rX];cases CQ j.s (Dn n)with
  | none=>rfl
  | some os=>
    obtain⟨off,s1⟩:=os;simp only [XV,dG,if_true];split<;>rfl
theorem PU(j:Jb)(n:Nd)(label:UInt8)(kid:UInt64)(e:Int):Hg (rX j) n label kid e=(rX (JF j n label kid e).1,(JF j n label kid e).2):=by
 unfold Hg JF;split
 ·rfl
 ·split
  ·exact PT _ _
  ·rfl
theorem SA:∀(f:Nat)(j:Jb)(l:List UInt8)(value:UInt64),KN f (rX j) l value=(rX (OH f j l value).1,(OH f j l value).2)
 | 0,j,l,value=>rfl
 | f+1,j,l,value=>by
   unfold KN OH;split
   ·exact PT _ _
   ·rw [SA f];exact PU _ _ _ _ _
theorem Abe(j:Jb)(x:Nd)(rest:List UInt8)(value:UInt64):Jp (rX j) x rest value=(rX (WR j x rest value).1,(WR j x rest value).2):=by
 unfold Jp WR;split
 ·rw [SA];exact PU _ _ _ _ _
 ·rw [PT];generalize MI j {x with pre:=x.pre.drop (common x.pre rest+1)}=r;obtain⟨j1,kid,e⟩:=r;simp only;split
  ·exact PU _ _ _ _ _
  ·split
   ·rfl
   ·split
    ·rw [SA];exact PU _ _ _ _ _
    ·rfl
theorem Zj:∀(l:List Int)(s:St),O0 ⟨.up (-1),s⟩ l=⟨.up (-1),TE s l⟩
 | [],s=>rfl
 | off::l,s=>by
   show O0 (IW ⟨.up (-1),s⟩ off).1 l=_;rw [VC];exact Zj l _
theorem WX:∀(l:List Int)(s:St)(e:Int),LC ⟨.up (-1),s⟩ l e=(⟨.up (-1),(QQ s l e).1⟩,(QQ s l e).2)
 | [],s,e=>rfl
 | off::l,s,e=>by
   unfold LC QQ;rw [VC];exact WX l _ _
theorem Oc(j:Jb)(e word:Int)(name:UInt64)(old:List Int):Fa (rX j) e word name old=(⟨.up (-1),(Hu j e word name old).1⟩,(Hu j e word name old).2):=by
 unfold Fa Hu;split
 ·simp only [rX,Zj]
 ·simp only [rX,XV,if_true,WX]
theorem TS(s:St)(pl:Pl)(n:UInt64):NF ⟨.up (-1),s⟩ pl n=(⟨.up (-1),PI s pl n⟩,0):=XV _ _ _
theorem Ae3(s:St)(key:List UInt8)(value:UInt64):PS ⟨.up (-1),s⟩ key value=(⟨.up (-1),(KW s key value).1⟩,(KW s key value).2):=by
 unfold PS KW;split
 ·rfl
 ·split
  ·rfl
  ·cases FQ s key with
   | none=>rfl
   | some wr=>
     obtain⟨way,rest⟩:=wr;simp only;cases CX way rest with
     | some last=>exact TS _ _ _
     | none=>
       simp only;cases way.getLast? with
       | none=>
         simp only;rw [show(⟨⟨.up (-1),s⟩,[]⟩:Jm)=rX ⟨s,[]⟩from rfl,SA];exact Oc _ _ _ _ _
       | some last=>
         simp only;rw [show(⟨⟨.up (-1),s⟩,[]⟩:Jm)=rX ⟨s,[]⟩from rfl,Abe];exact Oc _ _ _ _ _
theorem uV(j:Jb)(way:List Pl):O4 (rX j) way=(⟨.up (-1),(V6 j way).1⟩,(V6 j way).2):=by
 unfold O4 V6;generalize Hw way (way.length-1) [(way.getLast?.map (·.off)).getD 0]=r;obtain⟨a,old⟩:=r;cases a with
 | zero=>exact Oc _ _ _ _ _
 | succ a=>
   simp only;cases way[a]? with
   | none=>rfl
   | some up=>
     cases way[a+1]? with
     | none=>rfl
     | some at_=>
       simp only;cases Jr up.nd.labels at_.label with
       | none=>rfl
       | some i=>
         simp only;split
         ·rw [PT];exact Oc _ _ _ _ _
         ·rfl
theorem Ae4(s:St)(key:List UInt8):Rf ⟨.up (-1),s⟩ key=(⟨.up (-1),(U7 s key).1⟩,(U7 s key).2):=by
 unfold Rf U7;split
 ·rfl
 ·cases FQ s key with
  | none=>rfl
  | some wr=>
    obtain⟨way,rest⟩:=wr;simp only;cases CX way rest with
    | none=>rfl
    | some last=>
      simp only;split
      ·rfl
      ·split
       ·rw [show(⟨⟨.up (-1),s⟩,[]⟩:Jm)=rX ⟨s,[]⟩from rfl,uV];generalize V6 ⟨s,[]⟩ way=r;obtain⟨s1,e⟩:=r;simp only;split
        ·rw [TS];rfl
        ·split<;>rfl
       ·simp only [if_true,TS]
theorem nD(w:World):Calls Tryz.prog 9 #[.pointer none] w fun e w'=>e= .returned (.tuple #[.agg #[.int .i64 0,.int .i64 0,.int .i64 0,.int .i64 0],.int .i64 1])/\Below w.heap.size w w':=by
 have ax:=fun W=>Aa (size_nil W)
 have B0:CG (w.alloc (.cells #[.int .i64 0,.int .i64 0,.int .i64 0,.int .i64 0] 35)) w.heap.size 35 [.int .i64 0,.int .i64 0,.int .i64 0,.int .i64 0]:=heap_alloc_new _ _;have hb0:Below w.heap.size w (w.alloc (.cells #[.int .i64 0,.int .i64 0,.int .i64 0,.int .i64 0] 35)):=(Below.refl _ _).alloc (Ad _) _;go_enter Tryz.func9,Tryz.ntmps9
 go_wp2_with fail
 obtain⟨W0,hW0⟩:∃W0,W0=w.alloc (.cells #[.int .i64 0,.int .i64 0,.int .i64 0,.int .i64 0] 35):=⟨_,rfl⟩;rw [<-hW0]at B0 hb0⊢;clear hW0;refine(ax _).out.mono ?_;rintro e w'⟨rfl,rfl⟩;obtain⟨z0,z1,z2,z3,f0,f1,f2,f3⟩:=C9 B0;have HB0:=Aa B0;have Hb0:=Aa hb0;clear B0 hb0
 go_wp2_with fail
 have k9:=(((HB0.out.AZ 0 (.int .i64 0)).AZ 1 (.int .i64 0)).AZ 2 (.int .i64 0)).AZ 3 (.int .i64 0);have b9:=(((Hb0.out.setCell (p:=⟨w.heap.size,0,none⟩) (Ad _) (.int .i64 0)).setCell (p:=⟨w.heap.size,1,none⟩) (Ad _) (.int .i64 0)).setCell (p:=⟨w.heap.size,2,none⟩) (Ad _) (.int .i64 0)).setCell (p:=⟨w.heap.size,3,none⟩) (Ad _) (.int .i64 0);refine ND rfl w.heap.size k9 (.int .i64 1) rfl rfl ?_;exact⟨rfl,b9⟩
section
variable{dv:Value}{er:Nat}
theorem TT{w:World}(h0:0<er)(hH:Calls Tryz.prog 9 #[dv] w fun e w'=>e= .returned (.tuple #[.agg #[.int .i64 0,.int .i64 0,.int .i64 0,.int .i64 0],.int .i64 (er:Int)])/\Below w.heap.size w w'):
 Calls Tryz.prog 27 #[dv] w fun e w'=>e= .returned (.tuple #[.pointer none,.int .i64 (er:Int)])/\Below w.heap.size w w':=by
 have t0:((er:Int)==0)=false:=by rw [beq_eq_false_iff_ne];omega
 have t1:(er==0)=false:=by rw [beq_eq_false_iff_ne];omega
 have HH:=Aa hH;clear hH;go_enter Tryz.func27,Tryz.ntmps27
 go_wp2_with fail
 refine HH.out.mono ?_;rintro e w1⟨rfl,hb1⟩;have HB1:=Aa hb1;clear hb1 HH
 go_wp2_with fail
 go_ret2;exact⟨rfl,HB1.out.alloc HB1.out.size _⟩
theorem TU{w:World}(h0:0<er)(hH:∀W,Below w.heap.size w W->Calls Tryz.prog 27 #[dv] W fun e w'=>e= .returned (.tuple #[.pointer none,.int .i64 (er:Int)])/\Below W.heap.size W w'):
 Calls Tryz.prog 8 #[dv] w fun e w'=>e= .returned (.tuple #[.agg #[.pointer none,.pointer none,.int .u64 0],.int .i64 (er:Int)])/\Below w.heap.size w w':=by
 have t0:((er:Int)==0)=false:=by rw [beq_eq_false_iff_ne];omega
 have t1:(er==0)=false:=by rw [beq_eq_false_iff_ne];omega
 obtain⟨w1,hw1,hb1,hB1⟩:=FB w 30 [.pointer none,.pointer none,.int .u64 0];have HH:=Aa (hH w1 hb1);have HB1:=Aa hb1;have uX:=Aa hB1;have HW1:=Aa hw1;clear hH hb1 hB1 hw1;go_enter Tryz.func8,Tryz.ntmps8
 go_wp2_with fail
 rw [<-HW1.out];refine HH.out.mono ?_;rintro e w7⟨rfl,hb7⟩;have aY:=Aa (HB1.out.trans (hb7.mono HB1.out.size));have k7:=uX.out.below hb7 uX.out.lt;have f0:=k7.frozen 0;have f1:=k7.frozen 1;have f2:=k7.frozen 2;obtain⟨e0,e1,e2⟩:=k7.p3;have HK7:=Aa k7;clear hb7 k7 HH
 go_wp2_with fail
 have k9:=((HK7.out.AZ 0 (.pointer none)).AZ 1 (.pointer none)).AZ 2 (.int .u64 0);have b9:=((aY.out.setCell (p:=⟨w.heap.size,0,none⟩) (Ad _) (.pointer none)).setCell (p:=⟨w.heap.size,1,none⟩) (Ad _) (.pointer none)).setCell (p:=⟨w.heap.size,2,none⟩) (Ad _) (.int .u64 0);obtain⟨W,hW⟩:∃W,W=((w7.setCell ⟨w.heap.size,0,none⟩ (.pointer none)).setCell ⟨w.heap.size,1,none⟩ (.pointer none)).setCell ⟨w.heap.size,2,none⟩ (.int .u64 0):=⟨_,rfl⟩;rw [<-hW];rw [<-hW]at k9 b9;have y0:=k9.cell 0;have y1:=k9.cell 1;have y2:=k9.cell 2;simp at y0 y1 y2;refine bodyPost_ret (v:= .tuple #[.agg #[.pointer none,.pointer none,.int .u64 0],.int .i64 (er:Int)]) (by simp [results,Tryz.results8,go_sem,y0,y1,y2]) rfl ?_;exact⟨rfl,b9⟩
end
theorem WY(w:World):Calls Tryz.prog 8 #[.pointer none] w fun e w'=>e= .returned (.tuple #[.agg #[.pointer none,.pointer none,.int .u64 0],.int .i64 1])/\Below w.heap.size w w':=
 TU (er:=1) (by decide) (fun W _=>TT (er:=1) (by decide) (nD W))
def Ap5:Sh:={lines:=40,BI:=2,table:=128,data:=192}
theorem Aip:shapeOf 40=some Ap5:=by decide+kernel
theorem nG{w:World}{d:Nat}{own:Nat->Prop}(h:Dev w d 40 (fun _=>0) M0 (fun _=>0) own)(hT:Tabs w):Calls Tryz.prog 8 #[Aw d] w fun e w'=>e= .returned (.tuple #[.agg #[.pointer none,.pointer none,.int .u64 0],.int .i64 5])/\Below w.heap.size w w':=by
 have hV:QZ (fun _=>0) Ap5= .tuple #[.agg #[.int .i64 0,.int .i64 0,.int .i64 0,.int .i64 0],.int .i64 5]:=by
  unfold QZ;rw [if_neg (by decide+kernel)]
 refine TU (er:=5) (by decide) (fun W hW=>TT (er:=5) (by decide) ?_);have:=S9 (by decide) (by decide) Aip (by decide) (h.below hW) (hT.below hW);rw [hV]at this;exact this
