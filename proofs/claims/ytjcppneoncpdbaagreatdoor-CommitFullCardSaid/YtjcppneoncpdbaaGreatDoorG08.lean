import Derived.IntWalk
import Derived.Deep.RegionWith
import Derived.Deep.RegionLaw
import Derived.Test.YtjcppneoncpdbaaGreatDoorG01
import Derived.Test.YtjcppneoncpdbaaGreatDoorG03
import Derived.Test.YtjcppneoncpdbaaGreatDoorG04
import Derived.Test.YtjcppneoncpdbaaGreatDoorG05
import Derived.Test.YtjcppneoncpdbaaGreatDoorG06
import Derived.Test.YtjcppneoncpdbaaGreatDoorG07
set_option maxHeartbeats 32000000
set_option maxRecDepth 100000
open List renaming getD_eq_getElem?_getD->AZ,getElem?_eq_getElem->Af,length_set->BZ,getElem?_cons_zero->Ac,replicate->Bf,replicate_succ->RZ,set_append_right->KZ,nil_append->DN,getElem?_map->BC,length_map->CO,getElem?_cons_succ->Ae,getElem?_replicate->Gz,getElem_replicate->dK,ext_getElem->DX,getElem_map->P5,getElem_range->TS,find?_some->VL,mem_of_find?_eq_some->YB
open Go.Lib renaming hid->Aa
open Int renaming natCast_add->Aa4,natCast_mul->Fe,tdiv_eq_ediv_of_nonneg->YA
open Nat renaming mod_eq_of_lt->Ep,le_refl->Ad,zero_le->BA,le_of_lt->FB,le_trans->AL,mul_le_mul_left->RX,mul_add->oZ,mul_one->J3,mul_assoc->L8,lt_trichotomy->xe,succ_eq_add_one->qZ
namespace Go.Proofs.YtjcppneoncpdbaaGreatDoor
open Go.RowKit
theorem Ake{w:World}{g:Nat}{e:TypeId}{a b c d e' f i:Value}(h:BH w g e [a,b,c,d,e',f,i]):
 w.cell? ⟨g,0,none⟩=some a/\w.cell? ⟨g,1,none⟩=some b/\w.cell? ⟨g,2,none⟩=some c/\w.cell? ⟨g,3,none⟩=some d/\w.cell? ⟨g,4,none⟩=some e'/\w.cell? ⟨g,5,none⟩=some f/\w.cell? ⟨g,6,none⟩=some i:=
 ⟨h.cell 0,h.cell 1,h.cell 2,h.cell 3,h.cell 4,h.cell 5,h.cell 6⟩
theorem Abv{P:Program}{f:FuncId}{args:Array Value}{W:World}{n:Nat}{v:Value}(h:Calls P f args (W.drewN n) fun e w'=>e= .returned v/\Dr (W.drewN n) w'):
 Calls P f args (W.drewN n) fun e w''=>e= .returned v/\∃m,w''=W.drewN m:=
 h.mono fun _ _⟨he,m,hm⟩=>⟨he,n+m,by rw [hm,World.drewN_drewN]⟩
theorem Akf{P:Program}{f:FuncId}{args:Array Value}{W:World}{n:Nat}{v:Value}(h:Calls P f args (W.drewN n) fun e w'=>e= .returned v/\W.drewN n=w'):
 Calls P f args (W.drewN n) fun e w''=>e= .returned v/\∃m,w''=W.drewN m:=
 h.mono fun _ _⟨he,hm⟩=>⟨he,n,hm.symm⟩
structure Gg(w:World)(d p L:Nat)(s:St)(tb hb n cT cH:Nat):Prop where
 y0:w.cell? ⟨p,0,none⟩=some (.pointer (some ⟨d,0,none⟩))
 y1:w.cell? ⟨p,1,none⟩=some (.int .i64 (s.sh.lines:Nat))
 y2:w.cell? ⟨p,2,none⟩=some (.int .i64 (s.sh.BQ:Nat))
 y3:w.cell? ⟨p,3,none⟩=some (.int .i64 (s.sh.table:Nat))
 y4:w.cell? ⟨p,4,none⟩=some (.int .i64 (s.sh.data:Nat))
 y5:w.cell? ⟨p,5,none⟩=some (.slice (some ⟨tb,0,none⟩) n cT)
 y6:w.cell? ⟨p,6,none⟩=some (.slice (some ⟨hb,0,none⟩) n cH)
 tk:∀i,i<n->w.cell? ⟨tb,i,none⟩=some (.int .u64 (Gl s i:Nat))
 hd:∀i,i<n->w.cell? ⟨hb,i,none⟩=some (.int .u64 (hdN s i:Nat))
 ok:Yq L s.sh
 L1:L<=1024
 YS:n=s.sh.BQ
 Pn:s.tk.length=n
theorem getD_at(xs:List UInt64)(i:Nat)(h:i<xs.length):xs.getD i 0=xs[i]:=by
 rw [AZ,Af h];rfl
theorem FD.at{len:Nat->Nat}{w:World}{d p L:Nat}{s:St}{tb hb n cT cH:Nat}{own:Nat->Prop}(h:FD len w d p L s tb hb n cT cH own):Gg w d p L s tb hb n cT cH:=by
 obtain⟨y0,y1,y2,y3,y4,y5,y6⟩:=Ake h.box;refine⟨y0,y1,y2,y3,y4,y5,y6,fun i hi=> ?_,fun i hi=> ?_,Jn h.shape,h.L1,h.YS,h.Pn⟩
 ·have hl:i<s.tk.length:=by rw [h.Pn];exact hi
  rw [h.tk.cell i hl,Gl,getD_at _ _ hl]
 ·have hl:i<s.hd.length:=by rw [h.jW];exact hi
  rw [h.hd.cell i hl,hdN,getD_at _ _ hl]
theorem O6(s:St)(i:Nat):Gl s i<18446744073709551616:=UInt64.toNat_lt _
theorem JK(s:St)(i:Nat):hdN s i<18446744073709551616:=UInt64.toNat_lt _
theorem MC(s:St)(i:Nat):BJ s i<18446744073709551616:=Nat.or_lt_two_pow (n:=64) (O6 s i) (JK s i)
section
variable{w:World}{d p L:Nat}{s:St}{tb hb n cT cH:Nat}
theorem Ff(h:Gg w d p L s tb hb n cT cH):Calls Tryz.prog 54 #[.pointer (some ⟨p,0,none⟩)] w fun e w'=>e= .returned (.bool false)/\w=w':=by
 have y0:=h.y0;clear h;go_enter Tryz.func54,Tryz.ntmps54;go_wp2;go_ret;exact⟨rfl,rfl⟩
theorem lK(h:Gg w d p L s tb hb n cT cH)(i:Nat)(hi:i<n):Calls Tryz.prog 114 #[.pointer (some ⟨p,0,none⟩),.int .i64 (i:Int)] w fun e w'=>e= .returned (.int .i64 ((8*(s.sh.table/8+i):Nat):Int))/\w=w':=by
 have y3:=h.y3;have ht:=h.ok.table;have hs:=h.YS;have hf:=h.ok.fits;have hL:=h.L1;rw [ht]at y3;rw [show 8*(s.sh.table/8+i)=128+8*i by omega];clear h;go_enter Tryz.func114,Tryz.ntmps114;go_wp2;go_ret;exact⟨by go_num,rfl⟩
theorem JL(h:Gg w d p L s tb hb n cT cH)(i:Nat)(hi:i<n):Calls Tryz.prog 79 #[.pointer (some ⟨p,0,none⟩),.int .i64 (i:Int)] w fun e w'=>e= .returned (.int .u64 (BJ s i:Nat))/\Dr w w':=by
 have y5:=h.y5;have y6:=h.y6;have c1:=h.tk i hi;have c2:=h.hd i hi;have HE:=Aa (u64_or_nat (Gl s i) (hdN s i) (O6 s i) (JK s i));clear h;go_enter Tryz.func79,Tryz.ntmps79
 go_wp2_with fail
 go_quiet(fail)
 go_wp2_with fail
 rw [HE.out];go_ret;exact⟨rfl,_,rfl⟩
theorem Rk(h:Gg w d p L s tb hb n cT cH)(i c a:Nat)(hi:i<n)(hc:c<4)(ha:a<=16):Calls Tryz.prog 56 #[.pointer (some ⟨p,0,none⟩),.int .i64 (i:Int),.int .i64 (c:Int),.int .i64 (a:Int)] w fun e w'=>e= .returned (.int .i64 (Ce s.sh i c a:Nat))/\Dr w w':=by
 have y4:=h.y4;have hs:=h.YS;have hf:=h.ok.fits;have hL:=h.L1;have hl:=YO c;have hm:64*AQ c*a<=256*16:=Nat.mul_le_mul (by omega) ha;have HP:Hid (((Ce s.sh i c a:Nat):Int)=(s.sh.data:Int)+1024*(i:Int)+64*((AQ c:Nat):Int)*(a:Int)):=Aa (by unfold Ce;rw [Aa4,Aa4,Fe,Fe,Fe];rfl);have e0:(64:Int)*((AQ c:Nat):Int)*(a:Int)=((64*AQ c*a:Nat):Int):=by rw [Fe,Fe];rfl
 have HL:=Aa (Nu c · (by omega));generalize AQ c=lc at*;have s1:IntKind.i64.wrap (1024*(i:Int))=1024*(i:Int):=IntWalk.i64_in _ (by omega);have s2:IntKind.i64.wrap ((s.sh.data:Int)+1024*(i:Int))=(s.sh.data:Int)+1024*(i:Int):=IntWalk.i64_in _ (by omega);have s3:IntKind.i64.wrap (64*(lc:Int))=64*(lc:Int):=IntWalk.i64_in _ (by omega);have s4:IntKind.i64.wrap (64*(lc:Int)*(a:Int))=64*(lc:Int)*(a:Int):=IntWalk.i64_in _ (by rw [e0];omega);have s5:IntKind.i64.wrap ((s.sh.data:Int)+1024*(i:Int)+64*(lc:Int)*(a:Int))=(s.sh.data:Int)+1024*(i:Int)+64*(lc:Int)*(a:Int):=IntWalk.i64_in _ (by rw [e0];omega);clear h e0;go_enter Tryz.func56,Tryz.ntmps56
 go_wp2_with fail
 go_quiet((go_at_call 105;exact Akf (HL.out _)))
 go_wp2_with fail
 rw [HP.out];go_ret;exact⟨rfl,_,rfl⟩
theorem Gg.dr{w':World}(h:Gg w d p L s tb hb n cT cH)(k:Dr w w'):Gg w' d p L s tb hb n cT cH:=by
 obtain⟨q,rfl⟩:=k;exact⟨h.y0,h.y1,h.y2,h.y3,h.y4,h.y5,h.y6,h.tk,h.hd,h.ok,h.L1,h.YS,h.Pn⟩
def Hu(s:St)(off:Int):Value:=match J4 s off with
 | some (i,a)=> .tuple #[.int .i64 (i:Int),.int .i64 (a:Int),.bool true]
 | none=> .tuple #[.int .i64 0,.int .i64 0,.bool false]
theorem GN(h:Gg w d p L s tb hb n cT cH)(off:Int)(ho: -9223372036854775808<=off/\off<=9223372036854775807):Calls Tryz.prog 81 #[.pointer (some ⟨p,0,none⟩),.int .i64 off] w fun e w'=>e= .returned (Hu s off)/\Dr w w':=by
 have y4:=h.y4;have y5:=h.y5;have hs:=h.YS;have hn:=h.Pn;have hf:=h.ok.fits;have hL:=h.L1;have hd:=Dr.refl w;have H:=Aa h;by_cases h1:off<(s.sh.data:Int)
 ·have t1:decide (off<(s.sh.data:Int))=true:=decide_eq_true h1;have HV:Hid (Hu s off= .tuple #[.int .i64 0,.int .i64 0,.bool false]):=Aa (by rw [Hu,J4,if_pos (.inl h1)]);clear h h1 hs hn hf hL;go_enter Tryz.func81,Tryz.ntmps81
  go_wp2_with fail
  go_quiet(fail)
  go_wp2_with fail
  go_ret3
  exact⟨by rw [HV.out];rfl,_,rfl⟩
 ·have t1:decide (off<(s.sh.data:Int))=false:=decide_eq_false h1;have s1:IntKind.i64.wrap (1024*(n:Int))=1024*(n:Int):=IntWalk.i64_in _ (by omega);have s2:IntKind.i64.wrap ((s.sh.data:Int)+1024*(n:Int))=(s.sh.data:Int)+1024*(n:Int):=IntWalk.i64_in _ (by omega);by_cases h2:(s.sh.data:Int)+1024*(n:Int)<=off
  ·have t2:decide ((s.sh.data:Int)+1024*(n:Int)<=off)=true:=decide_eq_true h2;have HV:Hid (Hu s off= .tuple #[.int .i64 0,.int .i64 0,.bool false]):=Aa (by rw [Hu,J4,if_pos (.inr (by rw [hn];omega))]);clear h h1 h2 hs hn hf hL;go_enter Tryz.func81,Tryz.ntmps81
   go_wp2_with fail
   go_quiet(fail)
   go_wp2_with fail
   go_ret3
   exact⟨by rw [HV.out];rfl,_,rfl⟩
  ·have t2:decide ((s.sh.data:Int)+1024*(n:Int)<=off)=false:=decide_eq_false h2;have HF:Hid (J4 s off=if AQ (AU (BJ s ((off.toNat-s.sh.data)/1024)))=0\/(off.toNat-s.sh.data)%1024%(64*AQ (AU (BJ s ((off.toNat-s.sh.data)/1024))))≠0 then none else
    some ((off.toNat-s.sh.data)/1024,(off.toNat-s.sh.data)%1024/(64*AQ (AU (BJ s ((off.toNat-s.sh.data)/1024)))))):=Aa (by rw [J4,if_neg (by rw [hn];omega)])
   obtain⟨o,ho2,e9⟩:∃o:Nat,off.toNat-s.sh.data=o/\off=(s.sh.data:Int)+(o:Int):=⟨off.toNat-s.sh.data,rfl,by omega⟩;rw [ho2]at HF;have ho3:o<1024*n:=by omega
   have e1:IntKind.i64.wrap (off- (s.sh.data:Int))=(o:Int):=by rw [IntWalk.i64_in _ (by omega)];omega
   have e2:(o:Int).tdiv 1024=((o/1024:Nat):Int):=by rw [YA (by omega)];omega
   have e3:(o:Int).tmod 1024=((o%1024:Nat):Int):=by rw [Int.tmod_eq_emod_of_nonneg (by omega)];omega
   have hi:o/1024<n:=by omega
   have hr:o%1024<1024:=Nat.mod_lt _ (by decide);generalize o/1024=i at*;generalize o%1024=r at*;have e4:IntKind.i64.wrap (i:Int)=(i:Int):=IntWalk.i64_in _ (by omega);have e5:IntKind.i64.wrap (r:Int)=(r:Int):=IntWalk.i64_in _ (by omega);have hcl:=LH (BJ s i);have hll:=YO (AU (BJ s i));clear h h1 h2 ho2 e9 hs hn hf hL;by_cases c1:AQ (AU (BJ s i))=0
   ·have HV:Hid (Hu s off= .tuple #[.int .i64 0,.int .i64 0,.bool false]):=Aa (by rw [Hu,HF.out,if_pos (.inl c1)]);have HL:=Aa (Nu (AU (BJ s i)) · (by omega));rw [c1]at HL;clear c1 hll HF;go_enter Tryz.func81,Tryz.ntmps81
    go_wp2_with fail
    go_quiet(fail)
    go_wp2_with fail
    go_quiet(fail)
    go_wp2_with fail
    refine(JL (H.out.dr (Dr.one w _)) i hi).mono ?_;rintro e w1⟨rfl,hd1⟩;replace hd1:=(Dr.one w _).trans hd1
    go_wp2_with fail
    refine(FT (BJ s i) _ (MC s i)).mono ?_;rintro e w2⟨rfl,hd2⟩;replace hd2:=hd1.trans hd2
    go_wp2_with fail
    refine(HL.out _).mono ?_;rintro e w3⟨rfl,rfl⟩
    go_wp2_with fail
    go_ret3
    exact⟨by rw [HV.out];rfl,hd2⟩
   ·have HL:=Aa (Nu (AU (BJ s i)) · (by omega));have q1:((64:Int)*((AQ (AU (BJ s i)):Nat):Int)==0)=false:=by rw [beq_eq_false_iff_ne];omega
    have hm:(r:Int)%(64*((AQ (AU (BJ s i)):Nat):Int))=((r%(64*AQ (AU (BJ s i))):Nat):Int):=by rw [Int.natCast_emod,Fe];rfl
    by_cases c2:r%(64*AQ (AU (BJ s i)))=0
    ·have HV:Hid (Hu s off= .tuple #[.int .i64 (i:Int),.int .i64 ((r/(64*AQ (AU (BJ s i))):Nat):Int),.bool true]):=Aa (by rw [Hu,HF.out,if_neg (by rintro(h| h);exact c1 h;exact h c2)]);have q2:((r:Int)%(64*((AQ (AU (BJ s i)):Nat):Int))!=0)=false:=by rw [hm,c2];rfl
     have q3:(r:Int).tdiv (64*((AQ (AU (BJ s i)):Nat):Int))=((r/(64*AQ (AU (BJ s i))):Nat):Int):=by rw [YA (by omega),Int.natCast_ediv,Fe];rfl
     have hq:r/(64*AQ (AU (BJ s i)))<=r:=Nat.div_le_self _ _;generalize r/(64*AQ (AU (BJ s i)))=qt at*;have q4:IntKind.i64.wrap (qt:Int)=(qt:Int):=IntWalk.i64_in _ (by omega);generalize AQ (AU (BJ s i))=lc at*;clear hm HF c2;go_enter Tryz.func81,Tryz.ntmps81
     go_wp2_with fail
     go_quiet(fail)
     go_wp2_with fail
     go_quiet(fail)
     go_wp2_with fail
     refine(JL (H.out.dr (Dr.one w _)) i hi).mono ?_;rintro e w1⟨rfl,hd1⟩;replace hd1:=(Dr.one w _).trans hd1
     go_wp2_with fail
     refine(FT (BJ s i) _ (MC s i)).mono ?_;rintro e w2⟨rfl,hd2⟩;replace hd2:=hd1.trans hd2
     go_wp2_with fail
     refine(HL.out _).mono ?_;rintro e w3⟨rfl,rfl⟩
     go_wp2_with fail
     go_quiet(fail)
     go_wp2_with fail
     go_ret3
     exact⟨by rw [HV.out];rfl,hd2.trans (Dr.one _ _)⟩
    ·have HV:Hid (Hu s off= .tuple #[.int .i64 0,.int .i64 0,.bool false]):=Aa (by rw [Hu,HF.out,if_pos (.inr c2)]);have q2:((r:Int)%(64*((AQ (AU (BJ s i)):Nat):Int))!=0)=true:=by rw [hm,bne_iff_ne];omega
     generalize AQ (AU (BJ s i))=lc at*;clear hm HF c2;go_enter Tryz.func81,Tryz.ntmps81
     go_wp2_with fail
     go_quiet(fail)
     go_wp2_with fail
     go_quiet(fail)
     go_wp2_with fail
     refine(JL (H.out.dr (Dr.one w _)) i hi).mono ?_;rintro e w1⟨rfl,hd1⟩;replace hd1:=(Dr.one w _).trans hd1
     go_wp2_with fail
     refine(FT (BJ s i) _ (MC s i)).mono ?_;rintro e w2⟨rfl,hd2⟩;replace hd2:=hd1.trans hd2
     go_wp2_with fail
     refine(HL.out _).mono ?_;rintro e w3⟨rfl,rfl⟩
     go_wp2_with fail
     go_ret3
     exact⟨by rw [HV.out];rfl,hd2⟩
end
theorem O7{s:St}{off:Int}{i a:Nat}(h:J4 s off=some (i,a)):i<s.tk.length/\a<16/\off=((Ce s.sh i (AU (BJ s i)) a:Nat):Int)/\1<=AQ (AU (BJ s i))/\AQ (AU (BJ s i))*a+AQ (AU (BJ s i))<=16:=by
 unfold J4 at h;split at h
 ·cases h
 ·rename_i h1;obtain⟨o,ho⟩:∃o,off.toNat-s.sh.data=o:=⟨_,rfl⟩;rw [ho]at h;have hoff:off=((s.sh.data+o:Nat):Int):=by omega
  have ho2:o<1024*s.tk.length:=by omega
  split at h
  ·cases h
  ·rename_i h2;injection h with h
   injection h with hi ha
   rw [hi]at h2 ha;have hl1:AQ (AU (BJ s i))≠0:=fun e=>h2 (.inl e)
   have hm:o%1024%(64*AQ (AU (BJ s i)))=0:=Classical.byContradiction fun e=>h2 (.inr e)
   have hlc:AQ (AU (BJ s i))=1\/AQ (AU (BJ s i))=4:=by
    unfold AQ at hl1⊢;split at hl1<;>simp_all
   unfold Ce;rcases hlc with e| e
   ·rw [e]at hm ha⊢;refine⟨by omega,by omega,by omega,by omega,by omega⟩
   ·rw [e]at hm ha⊢;refine⟨by omega,by omega,by omega,by omega,by omega⟩
section
variable{w:World}{d p L:Nat}{s:St}{tb hb n cT cH:Nat}{own:Nat->Prop}
theorem WT(h:Gg w d p L s tb hb n cT cH)(off:Int)(ho: -9223372036854775808<=off/\off<=9223372036854775807):Calls Tryz.prog 103 #[.pointer (some ⟨p,0,none⟩),.int .i64 off] w fun e w'=>e= .returned (.int .i64 (Dc s off:Nat))/\Dr w w':=by
 have H:=Aa h;cases hf:J4 s off with
 | none=>
   have HV:Hid (Dc s off=0):=Aa (by rw [Dc,hf]);have HF:Hid (Hu s off= .tuple #[.int .i64 0,.int .i64 0,.bool false]):=Aa (by rw [Hu,hf]);clear h hf;go_enter Tryz.func103,Tryz.ntmps103
   go_wp2_with fail
   refine(Ff H.out).mono ?_;rintro e w'⟨rfl,rfl⟩
   go_wp2_with fail
   refine(GN H.out off ho).mono ?_;rintro e w1⟨rfl,hd⟩;rw [HF.out]
   go_wp2_with fail
   go_ret;exact⟨by rw [HV.out];rfl,hd⟩
 | some ia=>
   obtain⟨i,a⟩:=ia;obtain⟨hi,ha, -⟩:=O7 hf;rw [h.Pn]at hi;have HF:Hid (Hu s off= .tuple #[.int .i64 (i:Int),.int .i64 (a:Int),.bool true]):=Aa (by rw [Hu,hf]);have HH:=Aa (PN (Gl s i) a · (O6 s i) (by omega));have HC:=Aa (FT (Gl s i) · (O6 s i));have hv:Dc s off=if En (Gl s i) a then AU (Gl s i)else 0:=by rw [Dc,hf]
   cases hh:En (Gl s i) a
   ·rw [hh]at hv HH;have HV:=Aa hv;clear h hf hv hh;go_enter Tryz.func103,Tryz.ntmps103
    go_wp2_with fail
    refine(Ff H.out).mono ?_;rintro e w'⟨rfl,rfl⟩
    go_wp2_with fail
    refine(GN H.out off ho).mono ?_;rintro e w1⟨rfl,hd⟩;rw [HF.out];have h1:=H.out.dr hd;have y5:=h1.y5;have c1:=h1.tk i hi;clear h1
    go_wp2_with fail
    refine(HH.out _).mono ?_;rintro e w2⟨rfl,hd2⟩;clear y5 c1
    go_wp2_with fail
    go_ret;exact⟨by rw [HV.out];rfl,hd.trans hd2⟩
   ·rw [hh]at hv HH;have HV:=Aa hv;clear h hf hv hh;go_enter Tryz.func103,Tryz.ntmps103
    go_wp2_with fail
    refine(Ff H.out).mono ?_;rintro e w'⟨rfl,rfl⟩
    go_wp2_with fail
    refine(GN H.out off ho).mono ?_;rintro e w1⟨rfl,hd⟩;rw [HF.out];have h1:=H.out.dr hd;have y5:=h1.y5;have c1:=h1.tk i hi;clear h1
    go_wp2_with fail
    refine(HH.out _).mono ?_;rintro e w2⟨rfl,hd2⟩;clear y5 c1;replace hd:=hd.trans hd2;have h1:=H.out.dr hd;have y5:=h1.y5;have c1:=h1.tk i hi;clear h1
    go_wp2_with fail
    refine(HC.out _).mono ?_;rintro e w3⟨rfl,hd3⟩;clear y5 c1
    go_wp2_with fail
    go_ret;exact⟨by rw [HV.out];rfl,hd.trans hd3⟩
theorem Tabs.set{w:World}(h:Tabs w){b:Nat}(h1:b≠0)(h2:b≠1)(k:Nat)(u:Value):Tabs (w.setCell ⟨b,k,none⟩ u):=
 h.keep (Below.heap_setCell w ⟨b,k,none⟩ u _ (fun e=>h1 e.symm)) (Below.heap_setCell w ⟨b,k,none⟩ u _ (fun e=>h2 e.symm))
theorem FD.Ahw{len:Nat->Nat}(h:FD len w d p L s tb hb n cT cH own)(i:Nat)(x:UInt64):FD len (w.setCell ⟨tb,i,none⟩ (wv x)) d p L {s with tk:=s.tk.set i x} tb hb n cT cH own:=by
 have keep:∀b,b≠tb->(w.setCell ⟨tb,i,none⟩ (wv x)).heap[b]? =w.heap[b]? :=fun b hb'=>Below.heap_setCell w ⟨tb,i,none⟩ _ b hb'
 exact⟨h.dev.touch ((Touch.refl (fun b=>b=tb) w).setCell (p:=⟨tb,i,none⟩) (.inl rfl) _) (fun b hb' e=>h.dt (e▸hb')),h.L0,h.L1,h.shape,(keep p h.pt).trans h.box,h.tk.set i x,h.hd.keep (keep hb (fun e=>h.th e.symm)),
  by rw [BZ];exact h.Pn,h.jW,h.YS,h.cT,h.cH,h.dp,h.dt,h.dh,h.pt,h.ph,h.th,h.tabs.set (fun e=>h.g1 (.inr (.inr (.inl e.symm)))) (fun e=>h.g2 (.inr (.inr (.inl e.symm)))) _ _,h.g1,h.g2⟩
theorem FD.yc{len:Nat->Nat}(h:FD len w d p L s tb hb n cT cH own)(i:Nat)(x:UInt64):FD len (w.setCell ⟨hb,i,none⟩ (wv x)) d p L {s with hd:=s.hd.set i x} tb hb n cT cH own:=by
 have keep:∀b,b≠hb->(w.setCell ⟨hb,i,none⟩ (wv x)).heap[b]? =w.heap[b]? :=fun b hb'=>Below.heap_setCell w ⟨hb,i,none⟩ _ b hb'
 exact⟨h.dev.touch ((Touch.refl (fun b=>b=hb) w).setCell (p:=⟨hb,i,none⟩) (.inl rfl) _) (fun b hb' e=>h.dh (e▸hb')),h.L0,h.L1,h.shape,(keep p h.ph).trans h.box,h.tk.keep (keep tb h.th),h.hd.set i x,
  h.Pn,by rw [BZ];exact h.jW,h.YS,h.cT,h.cH,h.dp,h.dt,h.dh,h.pt,h.ph,h.th,h.tabs.set (fun e=>h.g1 (.inr (.inr (.inr e.symm)))) (fun e=>h.g2 (.inr (.inr (.inr e.symm)))) _ _,h.g1,h.g2⟩
theorem Dr.drew(w:World):Dr w w.drew:=⟨1,rfl⟩
theorem GU.dr{len:Nat->Nat}{F:Nat->Prop}{w':World}(h:GU len w d p L s F)(k:Dr w w'):GU len w' d p L s F:=h.below (k.below _)
theorem Aq.dr{F F':Nat->Prop}{w w' w'':World}(h:Aq F F' w w')(k:Dr w' w''):Aq F F' w w'':=h.below (k.below _)
theorem aB(x:Nat)(hx:x<18446744073709551616):wv (UInt64.ofNat x)= .int .u64 (x:Int):=by
 simp only [wv,UInt64.toNat_ofNat'];rw [Ep hx]
theorem gm{F:Nat->Prop}(h:Sys w d p L s F)(i x:Nat)(hi:i<s.tk.length)(hx:x<18446744073709551616):
 Calls Tryz.prog 83 #[.pointer (some ⟨p,0,none⟩),.int .i64 (i:Int),.int .u64 (x:Int)] w fun e w'=>e= .returned (.int .i64 0)/\∃F',Sys w' d p L (ZN s i (UInt64.ofNat x)) F'/\Aq F F' w w':=by
 have H:=Aa h;obtain⟨tb,hb,n,cT,cH,own,hr,hF⟩:=h;have h1:=hr.at;have hin:i<n:=by rw [<-h1.Pn];exact hi
 have y0:=h1.y0;have HE:=Aa (fun W(hW:Dr w W)=>lK (h1.dr hW) i hin);have hent:s.sh.table/8+i<8*L:=by
  have:=h1.ok.table;have:=h1.ok.fits;have:=h1.ok.NR;have:=h1.YS;omega
 have HP:=fun W(hW:Dr w W)=>VB (H.out.dr hW) (s.sh.table/8+i) (UInt64.ofNat x) hent
 rw [show((UInt64.ofNat x).toNat:Int)=(x:Int)by rw [UInt64.toNat_ofNat',Ep hx]]at HP;have HP:=Aa HP;clear h1 hr hF hent;go_enter Tryz.func83,Tryz.ntmps83
 go_wp2_with fail
 go_region_with(first
  | (go_at_call 114;go_loud(refine(HE.out _ (Dr.drew _)).mono ?_;rintro e w'⟨rfl,rfl⟩))
  | (go_at_call 50;go_loud(refine(HP.out _ (Dr.drew _)).mono ?_;rintro e w1⟨rfl,F1,hs1,hm1⟩)))
 all_goals(replace hm1:=(Aq.of_below ((Dr.drew w).below _)).trans hm1)
 all_goals(clear y0 HE HP)
 all_goals(obtain⟨tb1,hb1,n1,cT1,cH1,yf,hr1,hF1⟩:=hs1)
 all_goals(have h1:=hr1.at)
 all_goals(have hin1:i<n1:=by rw [<-h1.Pn];exact hi)
 all_goals(have y5:=h1.y5)
 all_goals(have c1:=h1.tk i hin1)
 all_goals(have f1:=hr1.tk.frozen i)
 all_goals(have HR:=Aa (hr1.Ahw i (UInt64.ofNat x)))
 all_goals(rw [aB x hx]at HR)
 all_goals(have HM:=Aa (hm1.set (p:=⟨tb1,i,none⟩) (hm1.own tb1 ((hF1 tb1).2 (.inr (.inr (.inl rfl))))) (.int .u64 (x:Int))))
 all_goals(clear h1 hr1 hm1)
 all_goals(go_wp2_with fail)
 all_goals(go_ret)
 all_goals(exact⟨rfl,F1,⟨tb1,hb1,n1,cT1,cH1,yf,HR.out,hF1⟩,HM.out⟩)
end
section
variable{w:World}{d p L:Nat}{s:St}{tb hb n cT cH:Nat}{own:Nat->Prop}{F:Nat->Prop}
theorem FD.dr{len:Nat->Nat}{w':World}(h:FD len w d p L s tb hb n cT cH own)(k:Dr w w'):FD len w' d p L s tb hb n cT cH own:=by
 obtain⟨q,rfl⟩:=k;obtain⟨g,hb0,hr,ho⟩:=h.dev;exact⟨⟨g,hb0,hr.below ((Dr.one w q).below _),ho⟩,h.L0,h.L1,h.shape,h.box,h.tk,h.hd,h.Pn,h.jW,h.YS,h.cT,h.cH,h.dp,h.dt,h.dh,h.pt,h.ph,h.th,h.tabs.below ((Dr.one w q).below _),h.g1,h.g2⟩
theorem FD.held(h:ax w d p L s tb hb n cT cH own)(hF:∀b,F b<->(own b\/b=p\/b=tb\/b=hb))(i x:Nat)(hx:x<18446744073709551616){W:World}(k:Dr w W):
 Sys (W.setCell ⟨hb,i,none⟩ (.int .u64 (x:Int))) d p L {s with hd:=s.hd.set i (UInt64.ofNat x)} F/\Aq F F w (W.setCell ⟨hb,i,none⟩ (.int .u64 (x:Int))):=by
 have h1:=(h.dr k).yc i (UInt64.ofNat x);rw [aB x hx]at h1;exact⟨⟨tb,hb,n,cT,cH,own,h1,hF⟩,((Aq.refl F w).dr k).set (p:=⟨hb,i,none⟩) (.inl ((hF hb).2 (.inr (.inr (.inr rfl))))) _⟩
theorem YU(h:Sys w d p L s F)(off:Int)(ho: -9223372036854775808<=off/\off<=9223372036854775807):
 Calls Tryz.prog 35 #[.pointer (some ⟨p,0,none⟩),.int .i64 off] w fun e w'=>e= .returned (.int .i64 (FX s off).2)/\∃F',Sys w' d p L (FX s off).1 F'/\Aq F F' w w':=by
 have ht:=h;obtain⟨tb,hb,n,cT,cH,own,hr,hF⟩:=h;have HA:=Aa hr.at;have hn:=hr.Pn;cases hf:J4 s off with
 | none=>
   have HV:Hid (FX s off=(s,7)):=Aa (by rw [FX,hf]);have HF:Hid (Hu s off= .tuple #[.int .i64 0,.int .i64 0,.bool false]):=Aa (by rw [Hu,hf]);have HS:=Aa ht;clear ht hf hn hr hF;go_enter Tryz.func35,Tryz.ntmps35
   go_wp2_with fail
   refine(Ff HA.out).mono ?_;rintro e w'⟨rfl,rfl⟩
   go_wp2_with fail
   refine(GN HA.out off ho).mono ?_;rintro e w1⟨rfl,hd⟩;rw [HF.out]
   go_wp2_with fail
   go_ret;rw [HV.out];exact⟨rfl,F,HS.out.dr hd,(Aq.refl _ _).dr hd⟩
 | some ia=>
   obtain⟨i,a⟩:=ia;obtain⟨hi,hx, -⟩:=O7 hf;have hil:=hi;rw [hn]at hi;have HF:Hid (Hu s off= .tuple #[.int .i64 (i:Int),.int .i64 (a:Int),.bool true]):=Aa (by rw [Hu,hf]);have HS:=Aa ht;have HR:=Aa hr;have HFF:=Aa hF;have HH:=Aa (PN (hdN s i) a · (JK s i) (by omega));cases hh:En (hdN s i) a
   ·rw [hh]at HH;have HV:Hid (FX s off=(s,7)):=Aa (by rw [FX,hf];simp [hh]);clear ht hf hn hr hF hh;go_enter Tryz.func35,Tryz.ntmps35
    go_wp2_with fail
    refine(Ff HA.out).mono ?_;rintro e w'⟨rfl,rfl⟩
    go_wp2_with fail
    refine(GN HA.out off ho).mono ?_;rintro e w1⟨rfl,hd⟩;rw [HF.out];have ha:=HA.out.dr hd;have y5:=ha.y5;have y6:=ha.y6;have c1:=ha.tk i hi;have c2:=ha.hd i hi;clear ha
    go_wp2_with fail
    refine(HH.out _).mono ?_;rintro e w'⟨rfl,hd'⟩;replace hd:=hd.trans hd';clear y5 y6 c1 c2 hd'
    go_wp2_with fail
    go_ret;rw [HV.out];exact⟨rfl,F,HS.out.dr hd,(Aq.refl _ _).dr hd⟩
   ·rw [hh]at HH;obtain⟨x,hx1⟩:∃x,(Fh (Gl s i) (AU (hdN s i)) a).1=x:=⟨_,rfl⟩;obtain⟨y,hy1⟩:∃y,(EL (hdN s i) a).1=y:=⟨_,rfl⟩;have hxl:x<18446744073709551616:=by rw [<-hx1];exact WQ _ _ _ (O6 s i) (by omega)
    have hyl:y<18446744073709551616:=by rw [<-hy1];exact WR _ _ (JK s i) (by omega)
    have HV:Hid (FX s off=({ZN s i (UInt64.ofNat x)with hd:=s.hd.set i (UInt64.ofNat y)},0)):=Aa (by rw [FX,hf];simp [hh,hx1,hy1]);have HC:=Aa (FT (hdN s i) · (JK s i));have HT:=Aa (take_any (Gl s i) (AU (hdN s i)) a · (O6 s i) (LH _) (by omega));have HD:=Aa (WS (hdN s i) a · (JK s i) (by omega));rw [hx1]at HT;rw [hy1]at HD;have HP:=Aa (fun W(k:Dr w W)=>gm (ht.dr k) i x hil hxl);generalize(Fh (Gl s i) (AU (hdN s i)) a).2=bx at*;generalize(EL (hdN s i) a).2=by_ at*;clear ht hf hn hr hF hh hx1 hy1;go_enter Tryz.func35,Tryz.ntmps35
    go_wp2_with fail
    refine(Ff HA.out).mono ?_;rintro e w'⟨rfl,rfl⟩
    go_wp2_with fail
    refine(GN HA.out off ho).mono ?_;rintro e w1⟨rfl,hd⟩;rw [HF.out];have ha:=HA.out.dr hd;have y5:=ha.y5;have y6:=ha.y6;have c1:=ha.tk i hi;have c2:=ha.hd i hi;clear ha
    go_wp2_with fail
    refine(HH.out _).mono ?_;rintro e w'⟨rfl,hd'⟩;replace hd:=hd.trans hd';clear y5 y6 c1 c2 hd';have ha:=HA.out.dr hd;have y5:=ha.y5;have y6:=ha.y6;have c1:=ha.tk i hi;have c2:=ha.hd i hi;clear ha
    go_wp2_with fail
    go_quiet(first
     | (go_at_call 57;exact Abv (HC.out _))
     | (go_at_call 80;exact Abv (HT.out _)))
    clear y5 y6 c1 c2;replace hd:=hd.trans (Dr.one _ nq)
    go_wp2_with fail
    refine(HP.out _ hd).mono ?_;rintro e w2⟨rfl,F2,hs2,hm2⟩;have hm3:=((Aq.refl F w).dr hd).trans hm2;obtain⟨tb2,hb2,n2,cT2,cH2,yg,hr2,hF2⟩:=hs2;have ha2:=hr2.at;have hi2:i<n2:=by rw [<-ha2.Pn,ZN];simpa using hil
    have z6:=ha2.y6;have z2:=ha2.hd i hi2;rw [show hdN (ZN s i (UInt64.ofNat x)) i=hdN s i from rfl]at z2;have z3:=hr2.hd.frozen i;have HR2:=Aa (fun W(k:Dr w2 W)=>hr2.held hF2 i y hyl k);clear hm2 ha2 hr2 HP HR HS HA HC HT
    go_wp2_with fail
    go_region_with(go_at_call 84;go_loud(refine(HD.out _).mono ?_;rintro e w3⟨rfl,q,rfl⟩))
    all_goals(clear z6 z2 z3 HD)
    all_goals(go_wp2_with fail)
    all_goals(go_ret)
    all_goals(rw [HV.out])
    all_goals(first
     | exact⟨rfl,F2,(HR2.out _ (Dr.one w2 _)).1,hm3.trans (HR2.out _ (Dr.one w2 _)).2⟩)
theorem LK(h:Sys w d p L s F)(off:Int)(ho: -9223372036854775808<=off/\off<=9223372036854775807):
 Calls Tryz.prog 94 #[.pointer (some ⟨p,0,none⟩),.int .i64 off] w fun e w'=>e= .returned (.int .i64 (EJ s off).2)/\∃F',Sys w' d p L (EJ s off).1 F'/\Aq F F' w w':=by
 have ht:=h;obtain⟨tb,hb,n,cT,cH,own,hr,hF⟩:=h;have HA:=Aa hr.at;have hn:=hr.Pn;cases hf:J4 s off with
 | none=>
   have HV:Hid (EJ s off=(s,7)):=Aa (by rw [EJ,hf]);have HF:Hid (Hu s off= .tuple #[.int .i64 0,.int .i64 0,.bool false]):=Aa (by rw [Hu,hf]);have HS:=Aa ht;clear ht hf hn hr hF;go_enter Tryz.func94,Tryz.ntmps94
   go_wp2_with fail
   refine(Ff HA.out).mono ?_;rintro e w'⟨rfl,rfl⟩
   go_wp2_with fail
   refine(GN HA.out off ho).mono ?_;rintro e w1⟨rfl,hd⟩;rw [HF.out]
   go_wp2_with fail
   go_ret;rw [HV.out];exact⟨rfl,F,HS.out.dr hd,(Aq.refl _ _).dr hd⟩
 | some ia=>
   obtain⟨i,a⟩:=ia;obtain⟨hi,hx, -⟩:=O7 hf;have hil:=hi;rw [hn]at hi;have HF:Hid (Hu s off= .tuple #[.int .i64 (i:Int),.int .i64 (a:Int),.bool true]):=Aa (by rw [Hu,hf]);have HS:=Aa ht;have HR:=Aa hr;have HFF:=Aa hF;obtain⟨y,hy1⟩:∃y,(EL (hdN s i) a).1=y:=⟨_,rfl⟩;have hyl:y<18446744073709551616:=by rw [<-hy1];exact WR _ _ (JK s i) (by omega)
   have HD:=Aa (WS (hdN s i) a · (JK s i) (by omega));rw [hy1]at HD;cases hb1:(EL (hdN s i) a).2
   ·rw [hb1]at HD;obtain⟨x,hx1⟩:∃x,(EL (Gl s i) a).1=x:=⟨_,rfl⟩;have hxl:x<18446744073709551616:=by rw [<-hx1];exact WR _ _ (O6 s i) (by omega)
    have HE:=Aa (WS (Gl s i) a · (O6 s i) (by omega));rw [hx1]at HE;cases hb2:(EL (Gl s i) a).2
    ·rw [hb2]at HE;have HV:Hid (EJ s off=(s,7)):=Aa (by rw [EJ,hf];simp [hb1,hb2]);clear ht hf hn hr hF hb1 hb2 hx1 hy1;go_enter Tryz.func94,Tryz.ntmps94
     go_wp2_with fail
     refine(Ff HA.out).mono ?_;rintro e w'⟨rfl,rfl⟩
     go_wp2_with fail
     refine(GN HA.out off ho).mono ?_;rintro e w1⟨rfl,hd⟩;rw [HF.out];have ha:=HA.out.dr hd;have y5:=ha.y5;have y6:=ha.y6;have c1:=ha.tk i hi;have c2:=ha.hd i hi;clear ha
     go_wp2_with fail
     refine(HD.out _).mono ?_;rintro e w'⟨rfl,hd'⟩;replace hd:=hd.trans hd';clear y5 y6 c1 c2 hd';have ha:=HA.out.dr hd;have y5:=ha.y5;have y6:=ha.y6;have c1:=ha.tk i hi;have c2:=ha.hd i hi;clear ha
     go_wp2_with fail
     refine(HE.out _).mono ?_;rintro e w'⟨rfl,hd'⟩;replace hd:=hd.trans hd';clear y5 y6 c1 c2 hd'
     go_wp2_with fail
     go_ret;rw [HV.out];exact⟨rfl,F,HS.out.dr hd,(Aq.refl _ _).dr hd⟩
    ·rw [hb2]at HE;have HV:Hid (EJ s off=(ZN s i (UInt64.ofNat x),0)):=Aa (by rw [EJ,hf];simp [hb1,hb2,hx1]);have HP:=Aa (fun W(k:Dr w W)=>gm (ht.dr k) i x hil hxl);clear ht hf hn hr hF hb1 hb2 hx1 hy1;go_enter Tryz.func94,Tryz.ntmps94
     go_wp2_with fail
     refine(Ff HA.out).mono ?_;rintro e w'⟨rfl,rfl⟩
     go_wp2_with fail
     refine(GN HA.out off ho).mono ?_;rintro e w1⟨rfl,hd⟩;rw [HF.out];have ha:=HA.out.dr hd;have y5:=ha.y5;have y6:=ha.y6;have c1:=ha.tk i hi;have c2:=ha.hd i hi;clear ha
     go_wp2_with fail
     refine(HD.out _).mono ?_;rintro e w'⟨rfl,hd'⟩;replace hd:=hd.trans hd';clear y5 y6 c1 c2 hd';have ha:=HA.out.dr hd;have y5:=ha.y5;have y6:=ha.y6;have c1:=ha.tk i hi;have c2:=ha.hd i hi;clear ha
     go_wp2_with fail
     refine(HE.out _).mono ?_;rintro e w'⟨rfl,hd'⟩;replace hd:=hd.trans hd';clear y5 y6 c1 c2 hd'
     go_wp2_with fail
     refine(HP.out _ hd).mono ?_;rintro e w2⟨rfl,F2,hs2,hm2⟩
     go_wp2_with fail
     go_ret;rw [HV.out];exact⟨rfl,F2,hs2,((Aq.refl F w).dr hd).trans hm2⟩
   ·rw [hb1]at HD;have HV:Hid (EJ s off=({s with hd:=s.hd.set i (UInt64.ofNat y)},0)):=Aa (by rw [EJ,hf];simp [hb1,hy1]);clear ht hf hn hr hF hb1 hy1;go_enter Tryz.func94,Tryz.ntmps94
    go_wp2_with fail
    refine(Ff HA.out).mono ?_;rintro e w'⟨rfl,rfl⟩
    go_wp2_with fail
    refine(GN HA.out off ho).mono ?_;rintro e w1⟨rfl,hd⟩;rw [HF.out];have ha:=HA.out.dr hd;have y5:=ha.y5;have y6:=ha.y6;have c1:=ha.tk i hi;have c2:=ha.hd i hi;clear ha
    go_wp2_with fail
    refine(HD.out _).mono ?_;rintro e w'⟨rfl,hd'⟩;replace hd:=hd.trans hd';clear y5 y6 c1 c2 hd';have ha:=HA.out.dr hd;have y6:=ha.y6;have c2:=ha.hd i hi;have f2:=(HR.out.dr hd).hd.frozen i;have HR2:=Aa (HR.out.held HFF.out i y hyl hd);clear ha
    go_wp2_with fail
    go_ret;rw [HV.out];exact⟨rfl,F,HR2.out.1,HR2.out.2⟩
end
theorem YV(k:Nat)(w:World)(hk:k<=10000):Calls Tryz.prog 118 #[.int .i64 (k:Int)] w fun e w'=>e= .returned (.int .i64 (I9 k:Nat))/\w=w':=by
 have e1:((k:Int)+8-1)/8=(((k+7)/8:Nat):Int):=by omega
 have e2:(2:Int)+(((k+7)/8:Nat):Int)=(I9 k:Nat):=by unfold I9;omega
 have hb:(k+7)/8<=2000:=by omega
 generalize(k+7)/8=q at*;go_enter Tryz.func118,Tryz.ntmps118;go_wp2;go_ret;exact⟨by rw [<-e2];simp [e1],rfl⟩
theorem yh(k b:Nat)(w:World)(hk:k<=10000)(hb:w.cell? ⟨b,0,none⟩=some (.func (.func 118) #[] #[])):
 Calls Tryz.prog 119 #[.int .i64 (k:Int),.pointer (some ⟨b,0,none⟩)] w fun e w'=>e= .returned (.int .i64 (LV k:Nat))/\w=w':=by
 have hq:I9 k<=3000:=by unfold I9;omega
 have HA:=Aa (YV k w hk);have e2:((I9 k:Nat):Int)+16*(k:Int)=(LV k:Nat):=by unfold LV;omega
 generalize I9 k=q at*;go_enter Tryz.func119,Tryz.ntmps119
 go_wp2_with fail
 refine HA.out.mono ?_;rintro e w'⟨rfl,rfl⟩
 go_wp2_with fail
 go_ret;exact⟨by rw [<-e2];rfl,rfl⟩
def yl(L:Nat):Value:=match shapeOf L with
 | some sh=> .tuple #[.agg #[.int .i64 (sh.lines:Nat),.int .i64 (sh.BQ:Nat),.int .i64 (sh.table:Nat),.int .i64 (sh.data:Nat)],.bool true]
 | none=> .tuple #[.agg #[.int .i64 0,.int .i64 0,.int .i64 0,.int .i64 0],.bool false]
theorem aC(L k:Nat)(hk:k<L)(h:LV (k+1)<=L):I5 L (L-k) k=I5 L (L- (k+1)) (k+1):=by
 obtain⟨f,hf⟩:∃f,L-k=f+1:=⟨L-k-1,by omega⟩;rw [hf,show L- (k+1)=f by omega,I5,if_pos h]
theorem aF(L k:Nat)(h:¬LV (k+1)<=L):I5 L (L-k) k=k:=by
 cases hf:L-k with
 | zero=>rfl
 | succ f=>rw [I5,if_neg h]
theorem lL{P:Program}(a:Addr)(F:Fn)(fs cs:Array Value)(w:World):(store a (.func F fs cs)).run P w=stored P w a (.func F fs cs) .plain:=run_store P w a _ .plain rfl
theorem YW{Q:Ending->World->Prop}{W:World}{tmps:Array Value}(g:Nat){a b c d:Value}(h:BH W g 73 [a,b,c,d])(v:Value)(h2:tmps[2]? =some (.pointer (some ⟨g,0,none⟩)))(h3:tmps[3]? =some v)
 (hq:Q (.returned (.tuple #[.agg #[a,b,c,d],v])) W):bodyPost Tryz.prog Tryz.f69 Q Exit.ret {tmps:=tmps,defers:=[]} W:=by
 obtain⟨y0,y1,y2,y3,f0,f1,f2,f3⟩:=Cb h;have hu:=run_underlying (P:=Tryz.prog) Tryz.underlying73;refine bodyPost_ret (v:= .tuple #[.agg #[a,b,c,d],v]) (by simp [results,Tryz.results69,go_sem,h2,h3,y0,y1,y2,y3]) rfl hq
theorem Rl(L:Nat)(w:World)(hL:L<=1024):Calls Tryz.prog 69 #[.int .i64 (L:Int)] w fun e w'=>e= .returned (yl L)/\Below w.heap.size w w':=by
 have t1:decide ((1024:Int)<(L:Int))=false:=decide_eq_false (by omega);have B0:BH (w.alloc (.cells #[.int .i64 0,.int .i64 0,.int .i64 0,.int .i64 0] 73)) w.heap.size 73 [.int .i64 0,.int .i64 0,.int .i64 0,.int .i64 0]:=heap_alloc_new _ _;have hs0:(w.alloc (.cells #[.int .i64 0,.int .i64 0,.int .i64 0,.int .i64 0] 73)).heap.size=w.heap.size+1:=by simp
 have B1:BH ((w.alloc (.cells #[.int .i64 0,.int .i64 0,.int .i64 0,.int .i64 0] 73)).alloc (.cells #[.nilFunc] 161)) (w.heap.size+1) 161 [.nilFunc]:=by rw [<-hs0];exact heap_alloc_new _ _
 have c1:=B1.cell 0;have f1:=B1.frozen 0;simp only [Ac]at c1;have sf:=fun a fs cs W=>lL (P:=Tryz.prog) a (.func 118) fs cs W
 go_enter Tryz.func69,Tryz.ntmps69
 go_wp2_with fail
 obtain⟨W,hW⟩:∃W,W=((w.alloc (.cells #[.int .i64 0,.int .i64 0,.int .i64 0,.int .i64 0] 73)).alloc (.cells #[.func (.func 118) #[] #[]] 161)):=⟨_,rfl⟩;rw [<-hW];have k1:BH W (w.heap.size+1) 161 [.func (.func 118) #[] #[]]:=by rw [hW,<-hs0];exact heap_alloc_new _ _
 have k0:BH W w.heap.size 73 [.int .i64 0,.int .i64 0,.int .i64 0,.int .i64 0]:=by
  rw [hW];exact(heap_alloc_old _ _ (by omega)).trans B0
 have hbW:Below w.heap.size w W:=by rw [hW];exact(((Below.refl _ _).alloc (Ad _) _).alloc (by simp) _)
 have K1:=Aa (k1.cell 0);have K0:=Aa k0;have HB:=Aa hbW;clear B0 B1 c1 f1 hW k1 k0 hs0 hbW
 go_loopw [6](fun i wr=>∃k,k<=L/\i= .int .i64 (k:Nat)/\wr=W/\I5 L (L-k) k=Ou L)(fun i _=>L- (intOf i).toNat)
 case atStart=>exact⟨0,BA _,rfl,rfl,by rw [Nat.sub_zero];rfl⟩
 case round=>
  obtain⟨k,hk,rfl,rfl,hS⟩:=hrel;have HN:=Aa (yh (k+1) (w.heap.size+1) wr (by omega) (by have:=K1.out;simpa using this));by_cases h1:LV (k+1)<=L
  ·have hk1:k<L:=by unfold LV at h1;omega
   have t2:decide (((LV (k+1):Nat):Int)<=(L:Int))=true:=decide_eq_true (by omega);have t2':decide (LV (k+1)<=L)=true:=decide_eq_true (by omega);have HS:Hid (I5 L (L- (k+1)) (k+1)=Ou L):=Aa (by rw [<-aC L k hk1 h1];exact hS);generalize LV (k+1)=nd at*;clear hS
   go_wp2_with fail
   rw [show(k:Int)+1=((k+1:Nat):Int)by omega];refine HN.out.mono ?_;rintro e w'⟨rfl,rfl⟩
   go_wp2_with fail
   go_roundw
   case rel=>exact⟨k+1,by omega,by go_num,trivial,HS.out⟩
   case measure=>simp [intOf];omega
  ·have hkS:Ou L=k:=by rw [<-hS];exact aF L k h1
   obtain⟨nd,hnd⟩:∃nd,LV (k+1)=nd:=⟨_,rfl⟩;rw [hnd]at HN h1;have t2:decide ((nd:Int)<=(L:Int))=false:=decide_eq_false (by omega);have t2':decide (nd<=L)=false:=decide_eq_false (by omega);clear hS h1 hnd;have HA:=Aa (YV k wr (by omega));obtain⟨y0,y1,y2,y3,f0,f1,f2,f3⟩:=Cb K0.out;by_cases h0:k=0
   ·subst h0;have HV:Hid (yl L= .tuple #[.agg #[.int .i64 0,.int .i64 0,.int .i64 0,.int .i64 0],.bool false]):=Aa (by
     unfold yl shapeOf;rw [if_neg (by omega)];simp [hkS])
    have HN0:=HN.out;rw [show(((0+1:Nat)):Int)=1 from rfl]at HN0;have HN0:=Aa HN0;clear hkS
    go_wp2_with fail
    refine HN0.out.mono ?_;rintro e w'⟨rfl,rfl⟩
    go_wp2_with fail
    have k9:=(((K0.out.AV 0 (.int .i64 0)).AV 1 (.int .i64 0)).AV 2 (.int .i64 0)).AV 3 (.int .i64 0);have b9:=(((HB.out.setCell (p:=⟨w.heap.size,0,none⟩) (Ad _) (.int .i64 0)).setCell (p:=⟨w.heap.size,1,none⟩) (Ad _) (.int .i64 0)).setCell (p:=⟨w.heap.size,2,none⟩) (Ad _) (.int .i64 0)).setCell (p:=⟨w.heap.size,3,none⟩) (Ad _) (.int .i64 0);refine YW w.heap.size k9 (.bool false) rfl rfl ?_;exact⟨by rw [HV.out],b9⟩
   ·have HV:Hid (yl L= .tuple #[.agg #[.int .i64 (L:Nat),.int .i64 (k:Nat),.int .i64 128,.int .i64 ((64*I9 k:Nat):Int)],.bool true]):=Aa (by
    unfold yl shapeOf;rw [if_neg (by omega)];simp [hkS,h0,Nat.mul_comm])
    have t3:((k:Int)==0)=false:=by rw [beq_eq_false_iff_ne];omega
    have hah:I9 k<=3000:=by unfold I9;omega
    have k1:wr.cell? ⟨w.heap.size+1,0,none⟩=some (.func (.func 118) #[] #[]):=by have:=K1.out;simpa using this
    generalize I9 k=ah at*;clear hkS
    go_wp2_with fail
    rw [show(k:Int)+1=((k+1:Nat):Int)by omega];refine HN.out.mono ?_;rintro e w'⟨rfl,rfl⟩
    go_wp2_with fail
    refine HA.out.mono ?_;rintro e w'⟨rfl,rfl⟩
    go_wp2_with fail
    have k9:=(((K0.out.AV 0 (.int .i64 (L:Int))).AV 1 (.int .i64 (k:Int))).AV 2 (.int .i64 128)).AV 3 (.int .i64 ((ah:Int)*64));have b9:=(((HB.out.setCell (p:=⟨w.heap.size,0,none⟩) (Ad _) (.int .i64 (L:Int))).setCell (p:=⟨w.heap.size,1,none⟩) (Ad _) (.int .i64 (k:Int))).setCell (p:=⟨w.heap.size,2,none⟩) (Ad _) (.int .i64 128)).setCell (p:=⟨w.heap.size,3,none⟩) (Ad _) (.int .i64 ((ah:Int)*64));refine YW w.heap.size k9 (.bool true) rfl rfl ?_;exact⟨by rw [HV.out];simp [Int.mul_comm],b9⟩
def lM(sh:Sh):Value:= .agg #[.int .i64 (sh.lines:Nat),.int .i64 (sh.BQ:Nat),.int .i64 (sh.table:Nat),.int .i64 (sh.data:Nat)]
theorem tu(x:Nat)(hx:x<18446744073709551616):wv (UInt64.ofNat x)= .int .u64 (x:Int):=by
 simp only [wv,UInt64.toNat_ofNat'];rw [Ep hx]
theorem QH:∀n,leBytes (Bf n (0:UInt64))=Bf (8*n) (0:UInt8)
 | 0=>rfl
 | n+1=>by
   rw [RZ,leBytes,QH n,show TW 0=Bf 8 (0:UInt8)by decide,List.replicate_append_replicate,show 8+8*n=8*(n+1)by omega]
def OY(H:List UInt64)(k:Nat):List UInt64:=H.take k++Bf (H.length-k) 0
theorem aG(H:List UInt64)(k:Nat)(hk:k<=H.length):(OY H k).length=H.length:=by simp [OY];omega
theorem tC(H:List UInt64)(k:Nat)(hk:k<H.length):(OY H k).set k H[k]=OY H (k+1):=by
 obtain⟨r,hr⟩:∃r,H.length-k=r+1:=⟨H.length-k-1,by omega⟩;unfold OY;rw [hr,show H.length- (k+1)=r by omega,KZ _ _ (by simp;omega)];simp only [List.length_take,Nat.min_eq_left (FB hk),Nat.sub_self,RZ,List.set_cons_zero];rw [List.take_succ_eq_append_getElem hk,List.append_assoc];rfl
theorem tH(H:List UInt64):OY H H.length=H:=by simp [OY]
theorem QI(sh:Sh)(w:World)(hL:sh.lines<=1024)(hs:shapeOf sh.lines=some sh)(hT:Abk w):Calls Tryz.prog 71 #[lM sh] w fun e w'=>∃v,e= .returned v/\w'.ownsRow w.heap.size 23 1 v 8 ((wordsOf sh).map wv)/\Below w.heap.size w w':=by
 have hOf:=fun W=>Rl sh.lines W hL
 have HV:Hid (yl sh.lines= .tuple #[lM sh,.bool true]):=Aa (by rw [yl,hs];rfl);have HOf:=Aa hOf;have ok:=Jn hs;have b1:=ok.fits;obtain⟨sl,hsl⟩:∃x,sh.BQ=x:=⟨_,rfl⟩;obtain⟨tb,htb⟩:∃x,sh.table=x:=⟨_,rfl⟩;obtain⟨dt,hdt⟩:∃x,sh.data=x:=⟨_,rfl⟩;obtain⟨li,pX⟩:∃x,sh.lines=x:=⟨_,rfl⟩;have hv:lM sh= .agg #[.int .i64 (li:Int),.int .i64 (sl:Int),.int .i64 (tb:Int),.int .i64 (dt:Int)]:=by rw [lM,hsl,htb,hdt,pX]
 rw [hv]at HV⊢;rw [pX]at HV HOf hL;clear hOf hv;go_enter Tryz.func71,Tryz.ntmps71
 go_wp2_with fail
 have B0:BH (w.alloc (.cells #[.int .i64 (li:Int),.int .i64 (sl:Int),.int .i64 (tb:Int),.int .i64 (dt:Int)] 73)) w.heap.size 73 [.int .i64 (li:Int),.int .i64 (sl:Int),.int .i64 (tb:Int),.int .i64 (dt:Int)]:=heap_alloc_new _ _;refine(HOf.out _).mono ?_;rintro e w1⟨rfl,hb1⟩;have B1:=B0.below hb1 (by simp);have EK:Below w.heap.size w w1:=((Below.refl _ _).alloc (Ad _) _).trans (hb1.mono (by simp));have hg1:w.heap.size<w1.heap.size:=B1.lt;obtain⟨y0,y1,y2,y3,f0,f1,f2,f3⟩:=Cb B1;clear hb1 B0 f0 f1 f2 f3;rw [HV.out];obtain⟨i0,hi,hz0,hz1,hz2⟩:=info_parts Tryz.infoByte;obtain⟨H,hH⟩:∃H,headW sh=H:=⟨_,rfl⟩;have hHl:H.length=6:=by rw [<-hH];rfl
 have hrow:[Value.int .u64 465675318387,.int .u64 1,.int .u64 (li:Int),.int .u64 (sl:Int),.int .u64 (tb:Int),.int .u64 (dt:Int),.int .u64 0,.int .u64 0]=(H++[0,0]).map wv:=by
  have e:∀x:Nat,x<1000000->((UInt64.ofNat x).toNat:Int)=(x:Int):=fun x hx=>by rw [UInt64.toNat_ofNat',Ep (by omega)]
  have h1:=e li (by omega);have h2:=e sl (by have:=ok.fits;omega);have h3:=e tb (by have:=ok.table;omega);have h4:=e dt (by have:=ok.fits;omega);rw [<-hH,headW,pX,hsl,htb,hdt];simp only [List.cons_append,DN,List.map_cons,List.map_nil,wv,h1,h2,h3,h4];rfl
 have hb2:sl<=1000000:=by have:=ok.fits;omega
 have hb3:tb<=1000000:=by have:=ok.table;omega
 have hb4:dt<=1000000:=by have:=ok.fits;omega
 have aH:=Aa hrow;have HHd:=Aa hH;clear hrow hH ok b1 hsl htb hdt hs
 go_wp2_with(at_make;go_loud(refine wpList_make_full _ rfl _ _ 39 rfl w.heap.size 5 i0 (.int .u8 0) 1 Tryz.underlying39 hi hz0 hz1 .i64 .i64 _ _ 48 rfl rfl rfl rfl (by rw [hz2];decide) (by decide) (by simp;omega) ?_);intro w0 hown0 hgrow0)
 obtain⟨W2,hW2⟩:∃W2,W2=(w1.alloc (.cells #[.int .i64 (li:Int),.int .i64 (sl:Int),.int .i64 (tb:Int),.int .i64 (dt:Int)] 73)).alloc (.cells #[.int .u64 465675318387,.int .u64 1,.int .u64 (li:Int),.int .u64 (sl:Int),.int .u64 (tb:Int),.int .u64 (dt:Int),.int .u64 0,.int .u64 0] 23):=⟨_,rfl⟩;have hL0:BH W2 (w1.heap.size+1) 23 ((H++[0,0]).map wv):=by
  have e:(w1.alloc (.cells #[.int .i64 (li:Int),.int .i64 (sl:Int),.int .i64 (tb:Int),.int .i64 (dt:Int)] 73)).heap.size=w1.heap.size+1:=by simp
  rw [<-aH.out,<-e,hW2];exact heap_alloc_new _ _
 have hbW2:Below w.heap.size w W2:=by rw [hW2];exact(EK.alloc (by omega) _).alloc (by simp;omega) _
 rw [<-hW2]at hgrow0 hown0;have hs2:W2.heap.size=w1.heap.size+1+1:=by rw [hW2];simp
 rw [hs2]at hown0;have hlt0:=hL0.lt;have Aem:Below W2.heap.size W2 w0:=(Below.refl _ _).grown hgrow0 (Ad _) (by simp);rw [Oo,show Bf 48 (0:UInt8)=leBytes (OY H 0)by rw [OY,List.take_zero,DN,hHl,QH]]at hown0;have HL0:=Aa hL0;have HB2:=Aa hbW2;clear hL0 hbW2 hgrow0 hW2 y0 y1 y2 y3 B1 EK
 go_loopw [6,39](fun b i wr=>∃k g c,k<=6/\i= .int .i64 (k:Nat)/\b= .slice (some ⟨g,0,none⟩) 48 c/\wr.ownsRow w.heap.size 5 1 (.slice (some ⟨g,0,none⟩) 48 c) 48 ((leBytes (OY H k)).map bv)/\Below W2.heap.size W2 wr)(fun _ i _=>6- (intOf i).toNat)
 case atStart=>
  refine⟨0,_,_,BA _,rfl,rfl,hown0,Aem⟩
 case round=>
  obtain⟨k,g,c,hk,rfl,rfl,hown,hbr⟩:=hrel;clear hown0 Aem;have hL1:=HL0.out.below hbr hlt0;by_cases hlt:k<6
  ·have hkH:k<H.length:=by omega
   have c1:=hL1.cell k;have ek:((H++[0,0]).map wv)[k]? =some (.int .u64 (H[k].toNat:Int)):=by
    rw [BC,List.getElem?_append_left hkH,Af hkH];rfl
   rw [ek]at c1;have Vt:=Aa (UG (some ⟨g,0,none⟩) 48 c k (OY H k) H[k] wr (by decide) (BK hown).2 (by rw [aG H k (by omega)];omega));have Abw:=Aa (tC H k hkH);generalize H[k]=x at*;have Py:=Aa hbr;clear hL1 ek hown hbr
   go_wp2_with fail
   refine Vt.out.mono ?_;rintro e w2⟨g2,c2,rfl,hown2,hb2'⟩;rw [Abw.out]at hown2;have Qp:=Aa (Ea (base':=w.heap.size) hown2 (AL HB2.out.size Py.out.size));have HB3:=Aa (Py.out.trans (hb2'.mono Py.out.size));clear hown2 hb2' Vt
   go_wp2_with fail
   go_roundw
   case rel=>exact⟨k+1,g2,c2,by omega,by go_num,rfl,Qp.out,HB3.out⟩
   case measure=>simp [intOf];omega
  ·have hk6:k=6:=by omega
   subst hk6;rw [show OY H 6=H by rw [<-hHl];exact tH H]at hown;have hTw:Abk wr:=fun j hj=>(hbr.cell (p:=⟨0,j,none⟩) (Nat.lt_of_lt_of_le (World.block_lt_of_cell? w _ (hT j hj)) HB2.out.size)).trans ((HB2.out.cell (p:=⟨0,j,none⟩) (World.block_lt_of_cell? w _ (hT j hj))).trans (hT j hj))
   have Akg:=Aa (lu (some ⟨g,0,none⟩) 48 c (leBytes H) wr (by decide) (BK hown).2 hTw);have hcr:Ko 0 (leBytes H)<4294967296:=by
    unfold Ko;have:=VX 0 (leBytes H) (by decide) (leBytes H).length (Ad _);rw [NI,List.take_length]at this;exact Nat.xor_lt_two_pow (n:=32) this (by decide)
   have lN:Hid (wordsOf sh=H++[UInt64.ofNat (Ko 0 (leBytes H)),0]):=Aa (by rw [wordsOf,HHd.out]);generalize Ko 0 (leBytes H)=cr at*;have hL1':=hL1;have c6:=hL1.cell 6;rw [BC,List.getElem?_append_right (by omega),hHl]at c6;have f6:=hL1.frozen 6;have HL1:=Aa hL1;have Py:=Aa hbr;clear hL1 hL1' hown hbr hTw
   go_wp2_with fail
   refine Akg.out.mono ?_;rintro e w'⟨rfl,rfl⟩
   go_wp2_with fail
   trace_state
   go_ret;have hL2:=HL1.out.AV 6 (.int .u64 (cr:Int));have e1:((H++[0,0]).map wv).set 6 (.int .u64 (cr:Int))=(wordsOf sh).map wv:=by
    rw [lN.out,<-tu cr (by omega),<-List.map_set,KZ _ _ (by omega),hHl];rfl
   rw [e1]at hL2;have Adz:=hL2.own (B:=w.heap.size) (by omega) (by rw [CO,lN.out];simp [hHl];decide);have hl8:((wordsOf sh).map wv).length=8:=by rw [CO,lN.out];simp [hHl]
   rw [hl8]at Adz;exact⟨_,rfl,Adz,(HB2.out.trans (Py.out.mono HB2.out.size)).setCell (p:=⟨w1.heap.size+1,6,none⟩) (by show w.heap.size<=w1.heap.size+1;omega) _⟩
theorem Rn{Q:Ending->World->Prop}{W:World}{tmps:Array Value}{fn:Func}(hr:fn.results= #[.cell 2 73,.tmp 3])(g:Nat){a b c d:Value}(h:BH W g 73 [a,b,c,d])(v:Value)(h2:tmps[2]? =some (.pointer (some ⟨g,0,none⟩)))(h3:tmps[3]? =some v)
 (hq:Q (.returned (.tuple #[.agg #[a,b,c,d],v])) W):bodyPost Tryz.prog fn Q Exit.ret {tmps:=tmps,defers:=[]} W:=by
 obtain⟨y0,y1,y2,y3,f0,f1,f2,f3⟩:=Cb h;have hu:=run_underlying (P:=Tryz.prog) Tryz.underlying73;refine bodyPost_ret (v:= .tuple #[.agg #[a,b,c,d],v]) (by simp [results,hr,go_sem,h2,h3,y0,y1,y2,y3]) rfl hq
theorem Dev.box{w:World}{d L:Nat}{ws:Nat->UInt64}{len mark:Nat->Nat}{own:Nat->Prop}(h:Dev w d L ws len mark own):∃g st,BH w d 105 [.slice (some ⟨g,0,none⟩) L L,.bool false,.int .i64 (-1),.int .i64 st]:=by
 obtain⟨g,hb,hr,_⟩:=h;obtain⟨st,hbx⟩:=hr.box;exact⟨g,st,hbx⟩
theorem Dev.size{w:World}{d L:Nat}{ws:Nat->UInt64}{len mark:Nat->Nat}{own:Nat->Prop}(h:Dev w d L ws len mark own)(hL:L<=1024):Calls Tryz.prog 44 #[.pointer (some ⟨d,0,none⟩)] w fun e w'=>e= .returned (.int .i64 ((L*64:Nat):Int))/\w=w':=by
 obtain⟨g,st,hbx⟩:=h.box;exact Wp d L g _ _ _ w hL hbx
theorem lQ{w:World}{d L:Nat}{ws:Nat->UInt64}{own:Nat->Prop}{sh:Sh}(hL0:0<L)(hL:L<=1024)(hs:shapeOf L=some sh)(h:Dev w d L ws (fun _=>0) (fun _=>0) own)(hT:Tabs w)(g1:¬own 0)(g2:¬own 1):
 Calls Tryz.prog 86 #[.pointer (some ⟨d,0,none⟩)] w fun e w'=>e= .returned (.tuple #[lM sh,.int .i64 0])/\
  ∃own',Dev w' d L (CP (CP ws 0 (Bf (8*L) 0)) 0 (wordsOf sh)) (fun _=>0) (fun _=>0) own'/\Aq own own' w w':=by
 have ok:=Jn hs;have pX:=ok.lines;have hlt:=h.lt;obtain⟨N,hN⟩:∃N,N=L*64:=⟨_,rfl⟩;have HSz:=Aa (fun W(h:Dev W d L ws (fun _=>0) (fun _=>0) own)=>by have:=h.size hL;rw [<-hN]at this;exact this);have e1:(N:Int)/64=(L:Int):=by omega
 have t1:((L:Int)==0)=false:=by rw [beq_eq_false_iff_ne];omega
 have HOf:=Aa (fun W=>Rl L W hL);have HV:Hid (yl L= .tuple #[lM sh,.bool true]):=Aa (by rw [yl,hs];rfl);obtain⟨v0,v1,v2,v3,hsv⟩:∃v0 v1 v2 v3:Nat,lM sh= .agg #[.int .i64 (v0:Int),.int .i64 (v1:Int),.int .i64 (v2:Int),.int .i64 (v3:Int)]:=⟨_,_,_,_,rfl⟩;have HSV:=Aa hsv;rw [hsv]at HV;have B0:BH (w.alloc (.cells #[.int .i64 0,.int .i64 0,.int .i64 0,.int .i64 0] 73)) w.heap.size 73 [.int .i64 0,.int .i64 0,.int .i64 0,.int .i64 0]:=heap_alloc_new _ _;have hb0:Below w.heap.size w (w.alloc (.cells #[.int .i64 0,.int .i64 0,.int .i64 0,.int .i64 0] 73)):=(Below.refl _ _).alloc (Ad _) _;have HD:=Aa h;clear h hN hsv;go_enter Tryz.func86,Tryz.ntmps86
 go_wp2_with fail
 obtain⟨W0,hW0⟩:∃W0,W0=w.alloc (.cells #[.int .i64 0,.int .i64 0,.int .i64 0,.int .i64 0] 73):=⟨_,rfl⟩;rw [<-hW0]at B0 hb0⊢;have hlt0:w.heap.size<W0.heap.size:=B0.lt;clear hW0;refine(HSz.out _ (HD.out.below hb0)).mono ?_;rintro e w'⟨rfl,rfl⟩
 go_wp2_with fail
 refine(HOf.out _).mono ?_;rintro e w1⟨rfl,hb1⟩;rw [HV.out];have EK:=hb0.trans (hb1.mono hb0.size);have B1:=B0.below hb1 hlt0;have HB1:=Aa EK;have Yr:=Aa B1;clear hb0 hb1 B0 B1 EK
 go_wp2_with fail
 obtain⟨W2,hW2⟩:∃W2,W2=w1.alloc (.cells #[.int .i64 (v0:Int),.int .i64 (v1:Int),.int .i64 (v2:Int),.int .i64 (v3:Int)] 73):=⟨_,rfl⟩;have hS2:BH W2 w1.heap.size 73 [.int .i64 (v0:Int),.int .i64 (v1:Int),.int .i64 (v2:Int),.int .i64 (v3:Int)]:=by rw [hW2];exact heap_alloc_new _ _
 have Fg:Below w1.heap.size w1 W2:=by rw [hW2];exact(Below.refl _ _).alloc (Ad _) _
 have hR2:=Yr.out.below Fg Yr.out.lt;have DW:=HB1.out.trans (Fg.mono HB1.out.size);have hw1:w.heap.size<=w1.heap.size:=HB1.out.size;have hD2:=HD.out.below DW;have hT2:=hT.below DW;rw [<-hW2];clear hW2 Fg;have HR2:=Aa hR2;have HS2:=Aa hS2;have HB2:=Aa DW;have HT2:=Aa hT2;have TP:=Aa (tq hL0 hL hD2);clear hR2 hS2 DW hT2 hD2;refine TP.out.mono ?_;rintro e w3⟨rfl,yf,hD3,ht3,ho3⟩;have nr:¬own w.heap.size:=fun h=>by have:=hlt _ h;omega
 have ns:¬own w1.heap.size:=fun h=>by have:=hlt _ h;omega
 have hR3:=HR2.out.touch ht3 nr;have hS3:=HS2.out.touch ht3 ns;have xN:=HT2.out.keep (ht3.block _ HT2.out.lt.1 g1) (ht3.block _ HT2.out.lt.2 g2);have hM3:Aq own yf w w3:=(Aq.of_below HB2.out).trans ⟨ht3,ho3⟩;obtain⟨y0,y1,y2,y3,_,_,_,_⟩:=Cb hS3;have n1:∀b,b<W2.heap.size->¬own b->¬yf b:=fun b hlt hn h=>(ho3 b h).elim hn (fun h=>by omega)
 have n1r:=n1 _ HR2.out.lt nr;have n1s:=n1 _ HS2.out.lt ns;have HR3:=Aa hR3;have O8:=Aa hS3;have HD3:=Aa hD3;have wP:=Aa hM3;have lN:=QI sh w3 (by omega) (by rw [pX];exact hs) xN.fours;rw [HSV.out]at lN;have lN:=Aa lN;clear hD3 ht3 ho3 hR3 hS3 xN hM3 TP
 go_wp2_with fail
 refine lN.out.mono ?_;rintro e w4⟨v4,rfl,hown4,hb4⟩;obtain⟨A4,c4,rfl,hc4,hr4⟩:=BU hown4;obtain⟨gd,hbd,hrd,hod⟩:=HD3.out;have hD4:Dev w4 d L (CP ws 0 (Bf (8*L) 0)) (fun _=>0) (fun _=>0) yf:=⟨gd,hbd,hrd.below hb4,hod⟩;have HP:=WO hL0 hL hD4 0 8 c4 A4 (wordsOf sh) (by omega) (by decide) hr4;rw [show((8*0:Nat):Int)=0 from rfl]at HP;have HP:=Aa HP;have hR4:=HR3.out.below hb4 HR3.out.lt;have hS4:=O8.out.below hb4 O8.out.lt;have HR4:=Aa hR4;have dC:=Aa hS4;have HM4:=Aa (wP.out.below hb4);clear hD4 hrd hod hown4 hr4 hb4 hR4 hS4 y0 y1 y2 y3 lN
 go_wp2_with fail
 refine HP.out.mono ?_;rintro e w5⟨rfl,yg,hD5,ht5,dB⟩;have ZX:=HR4.out.touch ht5 n1r;have hS5:=dC.out.touch ht5 n1s;have KP:=Aa (HM4.out.trans ⟨ht5,dB⟩);have n2r:¬yg w.heap.size:=fun h=>(dB _ h).elim n1r (fun h=>by have:=HR4.out.lt;omega)
 have HD5:=Aa hD5;obtain⟨y0,y1,y2,y3,_,_,_,_⟩:=Cb hS5;obtain⟨z0,z1,z2,z3,f0,f1,f2,f3⟩:=Cb ZX;have HR5:=Aa ZX;clear hD5 ht5 dB ZX hS5 HP
 go_wp2_with fail
 have k9:=(((HR5.out.AV 0 (.int .i64 (v0:Int))).AV 1 (.int .i64 (v1:Int))).AV 2 (.int .i64 (v2:Int))).AV 3 (.int .i64 (v3:Int));have t9:Touch (fun b=>b=w.heap.size) w5 ((((w5.setCell ⟨w.heap.size,0,none⟩ (.int .i64 (v0:Int))).setCell ⟨w.heap.size,1,none⟩ (.int .i64 (v1:Int))).setCell ⟨w.heap.size,2,none⟩ (.int .i64 (v2:Int))).setCell ⟨w.heap.size,3,none⟩ (.int .i64 (v3:Int))):=
  ((((Touch.refl (fun b=>b=w.heap.size) w5).setCell (p:=⟨w.heap.size,0,none⟩) (.inl rfl) _).setCell (p:=⟨w.heap.size,1,none⟩) (.inl rfl) _).setCell (p:=⟨w.heap.size,2,none⟩) (.inl rfl) _).setCell (p:=⟨w.heap.size,3,none⟩) (.inl rfl) _
 refine Rn rfl w.heap.size k9 (.int .i64 0) rfl rfl ?_;refine⟨by rw [HSV.out],yg,HD5.out.touch t9 (fun b hb e=>n2r (e▸hb)),⟨?_,KP.out.own⟩⟩;exact(KP.out.touch.trans t9 (fun b hb=> .inr (by omega)))
def WU(ws:Nat->UInt64)(sh:Sh):Value:=if wordsAt ws 0 8=wordsOf sh then .tuple #[lM sh,.int .i64 0]else .tuple #[.agg #[.int .i64 0,.int .i64 0,.int .i64 0,.int .i64 0],.int .i64 5]
theorem tJ{len:Nat->Nat}{w:World}{d L:Nat}{ws:Nat->UInt64}{own:Nat->Prop}{sh:Sh}(hL0:0<L)(hL:L<=1024)(hs:shapeOf L=some sh)(h:Dev w d L ws len (fun _=>0) own)(hT:Tabs w):
 Calls Tryz.prog 30 #[.pointer (some ⟨d,0,none⟩)] w fun e w'=>e= .returned (WU ws sh)/\Below w.heap.size w w':=by
 have ok:=Jn hs;have pX:=ok.lines;obtain⟨N,hN⟩:∃N,N=L*64:=⟨_,rfl⟩;have HSz:=Aa (fun W(h:Dev W d L ws len (fun _=>0) own)=>by have:=h.size hL;rw [<-hN]at this;exact this);have e1:(N:Int)/64=(L:Int):=by omega
 have t1:((L:Int)==0)=false:=by rw [beq_eq_false_iff_ne];omega
 have HOf:=Aa (fun W=>Rl L W hL);have HV:Hid (yl L= .tuple #[lM sh,.bool true]):=Aa (by rw [yl,hs];rfl);obtain⟨v0,v1,v2,v3,hsv⟩:∃v0 v1 v2 v3:Nat,lM sh= .agg #[.int .i64 (v0:Int),.int .i64 (v1:Int),.int .i64 (v2:Int),.int .i64 (v3:Int)]:=⟨_,_,_,_,rfl⟩;have HSV:=Aa hsv;rw [hsv]at HV;have B0:BH (w.alloc (.cells #[.int .i64 0,.int .i64 0,.int .i64 0,.int .i64 0] 73)) w.heap.size 73 [.int .i64 0,.int .i64 0,.int .i64 0,.int .i64 0]:=heap_alloc_new _ _;have hb0:Below w.heap.size w (w.alloc (.cells #[.int .i64 0,.int .i64 0,.int .i64 0,.int .i64 0] 73)):=(Below.refl _ _).alloc (Ad _) _;have HD:=Aa h;have HDb:=Aa (fun W(k:Below w.heap.size w W)=>(h.below k:Dev W d L ws len (fun _=>0) own));clear h hN hsv;go_enter Tryz.func30,Tryz.ntmps30
 go_wp2_with fail
 obtain⟨W0,hW0⟩:∃W0,W0=w.alloc (.cells #[.int .i64 0,.int .i64 0,.int .i64 0,.int .i64 0] 73):=⟨_,rfl⟩;rw [<-hW0]at B0 hb0⊢;have hlt0:w.heap.size<W0.heap.size:=B0.lt;clear hW0;refine(HSz.out _ (HDb.out _ hb0)).mono ?_;rintro e w'⟨rfl,rfl⟩;obtain⟨gd,hbd,hrd,hod⟩:=HDb.out _ hb0;have HG:=aj d L ws _ _ gd hbd 0 8 W0 hL0 hL hrd (by omega);rw [show((8*0:Nat):Int)=0 from rfl]at HG;have HG:=Aa HG;clear hrd hod
 go_wp2_with fail
 refine HG.out.mono ?_;rintro e w1⟨v1',rfl,ho1,hb1⟩;obtain⟨A1,c1,rfl,hc1,hr1⟩:=BU ho1;have EK:=hb0.trans (hb1.mono hb0.size);have B1:=B0.below hb1 hlt0;have HR1:Hid (Ws w1 A1 8 (wordsAt ws 0 8)):=Aa hr1;have HB1:=Aa EK;have Yr:=Aa B1;clear hb0 hb1 B0 B1 EK ho1 hr1 HG
 go_wp2_with fail
 refine(HOf.out _).mono ?_;rintro e w2⟨rfl,hb2⟩;rw [HV.out];have DW:=HB1.out.trans (hb2.mono HB1.out.size);have hlt1:=Yr.out.lt;have Aen:=Yr.out.below hb2 hlt1;have hr2:=HR1.out.below hb2;obtain⟨W3,hW3⟩:∃W3,W3=w2.alloc (.cells #[.int .i64 (v0:Int),.int .i64 (v1:Int),.int .i64 (v2:Int),.int .i64 (v3:Int)] 73):=⟨_,rfl⟩;have ET:Below w2.heap.size w2 W3:=by rw [hW3];exact(Below.refl _ _).alloc (Ad _) _
 have hS3:BH W3 w2.heap.size 73 [.int .i64 (v0:Int),.int .i64 (v1:Int),.int .i64 (v2:Int),.int .i64 (v3:Int)]:=by rw [hW3];exact heap_alloc_new _ _
 have Ahx:=Aen.below ET Aen.lt;have Ns:=DW.trans (ET.mono DW.size);have lN:=QI sh W3 (by omega) (by rw [pX];exact hs) (hT.below Ns).fours;rw [HSV.out]at lN;have lN:=Aa lN;have HR3:=Aa (hr2.below ET);have O8:=Aa hS3;have Yt:=Aa Ahx;have HB3:=Aa Ns;have HW3:=Aa hW3;clear DW Aen hr2 ET hS3 Ahx Ns hb2 hW3 Yr HR1
 go_wp2_with fail
 rw [<-HW3.out];refine lN.out.mono ?_;rintro e w4⟨v4,rfl,hown4,hb4⟩;obtain⟨A4,c4,rfl,hc4,hr4⟩:=BU hown4;have HEq:=Aa (O5 A1 A4 8 8 c1 c4 (wordsAt ws 0 8) (wordsOf sh) w4 (by decide) (by decide) (HR3.out.below hb4) hr4);have dC:=Aa (O8.out.below hb4 O8.out.lt);have lS:=Aa (Yt.out.below hb4 Yt.out.lt);have HB4:=Aa (HB3.out.trans (hb4.mono HB3.out.size));clear hown4 hr4 hb4 lN;by_cases he:wordsAt ws 0 8=wordsOf sh
 ·rw [decide_eq_true he]at HEq;have HVV:Hid (WU ws sh= .tuple #[lM sh,.int .i64 0]):=Aa (by rw [WU,if_pos he]);clear he
  go_wp2_with fail
  refine HEq.out.mono ?_;rintro e w5⟨rfl,q,rfl⟩;have hS5:=dC.out.below ((Dr.one w4 q).below _) dC.out.lt;have ZX:=lS.out.below ((Dr.one w4 q).below _) lS.out.lt;obtain⟨W5,YX⟩:∃W5,W5=w4.drewN q:=⟨_,rfl⟩;have hb5:Below w.heap.size w W5:=HB4.out.trans ((by rw [YX];exact(Dr.one w4 q).below _));rw [<-YX]at hS5 ZX⊢;clear YX;obtain⟨y0,y1,y2,y3,_,_,_,_⟩:=Cb hS5;obtain⟨z0,z1,z2,z3,f0,f1,f2,f3⟩:=Cb ZX;have HR5:=Aa ZX;have MF:=Aa hb5;clear ZX hS5 hb5
  go_wp2_with fail
  have k9:=(((HR5.out.AV 0 (.int .i64 (v0:Int))).AV 1 (.int .i64 (v1:Int))).AV 2 (.int .i64 (v2:Int))).AV 3 (.int .i64 (v3:Int));have b9:=(((MF.out.setCell (p:=⟨w.heap.size,0,none⟩) (Ad _) (.int .i64 (v0:Int))).setCell (p:=⟨w.heap.size,1,none⟩) (Ad _) (.int .i64 (v1:Int))).setCell (p:=⟨w.heap.size,2,none⟩) (Ad _) (.int .i64 (v2:Int))).setCell (p:=⟨w.heap.size,3,none⟩) (Ad _) (.int .i64 (v3:Int));refine Rn rfl w.heap.size k9 (.int .i64 0) rfl rfl ?_;exact⟨by rw [HVV.out,HSV.out],b9⟩
 ·rw [decide_eq_false he]at HEq;have HVV:Hid (WU ws sh= .tuple #[.agg #[.int .i64 0,.int .i64 0,.int .i64 0,.int .i64 0],.int .i64 5]):=Aa (by rw [WU,if_neg he]);clear he
  go_wp2_with fail
  refine HEq.out.mono ?_;rintro e w5⟨rfl,q,rfl⟩;have ZX:=lS.out.below ((Dr.one w4 q).below _) lS.out.lt;obtain⟨W5,YX⟩:∃W5,W5=w4.drewN q:=⟨_,rfl⟩;have hb5:Below w.heap.size w W5:=HB4.out.trans ((by rw [YX];exact(Dr.one w4 q).below _));rw [<-YX]at ZX⊢;clear YX;obtain⟨z0,z1,z2,z3,f0,f1,f2,f3⟩:=Cb ZX;have HR5:=Aa ZX;have MF:=Aa hb5;clear ZX hb5
  go_wp2_with fail
  have k9:=(((HR5.out.AV 0 (.int .i64 0)).AV 1 (.int .i64 0)).AV 2 (.int .i64 0)).AV 3 (.int .i64 0);have b9:=(((MF.out.setCell (p:=⟨w.heap.size,0,none⟩) (Ad _) (.int .i64 0)).setCell (p:=⟨w.heap.size,1,none⟩) (Ad _) (.int .i64 0)).setCell (p:=⟨w.heap.size,2,none⟩) (Ad _) (.int .i64 0)).setCell (p:=⟨w.heap.size,3,none⟩) (Ad _) (.int .i64 0);refine Rn rfl w.heap.size k9 (.int .i64 5) rfl rfl ?_;exact⟨by rw [HVV.out],b9⟩
theorem Tryz.yt:IE Tryz.prog 129 23 (.int .u64 0) 1 8:=⟨Tryz.underlying129,by kernel_rfl,rfl⟩
theorem tK(p t i:Nat)(w:World)(y3:w.cell? ⟨p,3,none⟩=some (.int .i64 (t:Int)))(ht:t<=100000)(hi:i<=100000):Calls Tryz.prog 114 #[.pointer (some ⟨p,0,none⟩),.int .i64 (i:Int)] w fun e w'=>e= .returned (.int .i64 ((t:Int)+8*(i:Int)))/\w=w':=by
 go_enter Tryz.func114,Tryz.ntmps114;go_wp2;go_ret;exact⟨by go_num,rfl⟩
theorem aI(ws:Nat->UInt64)(j k:Nat):(wordsAt ws j (k+1)).map wv=(wordsAt ws j k).map wv++[.int .u64 ((ws (j+k)).toNat:Int)]:=by
 simp [wordsAt,List.range_succ,wv]
theorem lT{W4 w5 w6:World}{p0 k g6 c6 base:Nat}{v a0 a1 a2 a3 a4 a6:Value}{ws:Nat->UInt64}{j:Nat}{x:UInt64}(hx:ws (j+k)=x)(_:base<=p0)
 (hP:BH w5 p0 131 [a0,a1,a2,a3,a4,v,a6])(hv:(k=0/\v= .slice none 0 0)\/∃g c,v= .slice (some ⟨g,0,none⟩) k c/\p0<g)(hbl:Below p0 W4 w5)(_:W4.heap.size<=w5.heap.size)
 (hO:w6.ownsRow base 23 1 (.slice (some ⟨g6,0,none⟩) (k+1) c6) (k+1) ((wordsAt ws j k).map wv++[.int .u64 (x.toNat:Int)]))(hB:Below base w5 w6)(hK:Kept w5 w6 v.ownBlock)(hg:v.ownBlock=some g6\/w5.heap.size<=g6):
 BH (w6.setCell ⟨p0,5,none⟩ (.slice (some ⟨g6,0,none⟩) (k+1) c6)) p0 131 [a0,a1,a2,a3,a4,.slice (some ⟨g6,0,none⟩) (k+1) c6,a6]/\p0<g6/\
  (w6.setCell ⟨p0,5,none⟩ (.slice (some ⟨g6,0,none⟩) (k+1) c6)).ownsRow base 23 1 (.slice (some ⟨g6,0,none⟩) (k+1) c6) (k+1) ((wordsAt ws j (k+1)).map wv)/\Below p0 W4 (w6.setCell ⟨p0,5,none⟩ (.slice (some ⟨g6,0,none⟩) (k+1) c6)):=by
 have hne:some p0≠v.ownBlock:=fun e=>by rcases hv with⟨_,h⟩| ⟨g,c,h,hlt⟩<;>(subst h;simp [Value.ownBlock]at e);omega
 have hpg:p0<g6:=by
  rcases hg with h| h
  ·rcases hv with⟨_,h'⟩| ⟨g,c,h',hlt⟩<;>(subst h';simp [Value.ownBlock]at h);omega
  ·have:=hP.lt;omega
 have hP6:BH w6 p0 131 [a0,a1,a2,a3,a4,v,a6]:=(hK.2 p0 hP.lt hne).trans hP;refine⟨hP6.AV 5 _,hpg,?_,?_⟩
 ·rw [aI,hx];refine Gf hO ((Touch.refl (fun b=>b=p0) w6).setCell (p:=⟨p0,5,none⟩) (.inl rfl) _) (fun b hb e=> ?_);have:g6=b:=by simpa [Value.ownBlock]using hb
  omega
 ·have Ahy:=hP.lt;have hb6:Below p0 w5 w6:=⟨hB.os,hB.tape,hB.output,hK.1,fun b hb=>hK.2 b (Nat.lt_trans hb Ahy) (fun e=>by
   rcases hv with⟨_,h'⟩| ⟨g,c,h',hlt⟩
   ·subst h';simp [Value.ownBlock]at e
   ·subst h';have:b=g:=by simpa [Value.ownBlock]using e
    omega)⟩
  exact(hbl.trans hb6).setCell (p:=⟨p0,5,none⟩) (Ad _) _
def Aeo(len:Nat->Nat)(d L:Nat)(ws:Nat->UInt64)(own:Nat->Prop)(sh:Sh)(w:World)(e:Ending)(w':World):Prop:=
 Below w.heap.size w w'/\((∀i,i<sh.BQ->FK (ws (sh.table/8+i)).toNat=true)->∃p F,e= .returned (.tuple #[.pointer (some ⟨p,0,none⟩),.int .i64 0])/\
  GU len w' d p L {sh:=sh,ws:=ws,tk:=wordsAt ws (sh.table/8) sh.BQ,hd:=Bf sh.BQ 0} F/\∀b,F b->own b\/w.heap.size<=b)/\
  ((∃i,i<sh.BQ/\¬FK (ws (sh.table/8+i)).toNat=true)->e= .returned (.tuple #[.pointer none,.int .i64 5]))
theorem Yu{len:Nat->Nat}{w:World}{d L:Nat}{ws:Nat->UInt64}{own:Nat->Prop}{sh:Sh}(hL0:0<L)(hL:L<=1024)(hs:shapeOf L=some sh)(h:Dev w d L ws len (fun _=>0) own)(hT:Tabs w)(g1:¬own 0)(g2:¬own 1)
 (h8:wordsAt ws 0 8=wordsOf sh):
 Calls Tryz.prog 65 #[.pointer (some ⟨d,0,none⟩)] w (Aeo len d L ws own sh w):=by
 have ok:=Jn hs;have HO:=Aa (tJ hL0 hL hs h hT);have HV:Hid (WU ws sh= .tuple #[lM sh,.int .i64 0]):=Aa (by rw [WU,if_pos h8]);obtain⟨n,hn⟩:∃x,sh.BQ=x:=⟨_,rfl⟩;obtain⟨tb,htb⟩:∃x,sh.table=x:=⟨_,rfl⟩;obtain⟨dt,hdt⟩:∃x,sh.data=x:=⟨_,rfl⟩;obtain⟨li,pX⟩:∃x,sh.lines=x:=⟨_,rfl⟩;have hsv:lM sh= .agg #[.int .i64 (li:Int),.int .i64 (n:Int),.int .i64 (tb:Int),.int .i64 (dt:Int)]:=by rw [lM,hn,htb,hdt,pX]
 rw [hsv]at HV;have Abx:n<=64:=by have:=ok.fits;omega
 have Ahz:tb=128:=by rw [<-htb];exact ok.table
 obtain⟨i0,hi,hz0,hz1,hz2⟩:=info_parts Tryz.H8.hi;have hmk:∀W:World,(Instr.makeSlice 129 (.int .i64 (n:Int)) (.int .i64 (n:Int))).run Tryz.prog W= .ok (.slice (some ⟨W.heap.size,0,none⟩) n n) (W.alloc (.cells (madeCells (Value.int .u64 0).cells (n*1)) 23)):=fun W=>by
  have:=run_make (P:=Tryz.prog) (w:=W) 129 23 i0 (.int .u64 0) Tryz.underlying129 hi hz0 .i64 .i64 (n:Int) (n:Int) (by omega) (by omega) (by rw [hz2];omega) (by omega);rw [hz1]at this;simpa using this
 obtain⟨zc,hzc⟩:∃zc,madeCells (Value.int .u64 0).cells (n*1)=zc:=⟨_,rfl⟩;rw [hzc]at hmk;have HDb:=Aa (fun W(k:Below w.heap.size w W)=>(h.below k:Dev W d L ws len (fun _=>0) own));have tN:=Aa ok;have HLt:=Aa h.lt;have HSh:=Aa hs;have Akh:tb<=100000:=by omega
 have Ah0:=Aa Ahz;have HTb:=Aa htb;clear h ok hsv h8 hi hz0 hz1 hz2 Ahz htb;go_enter Tryz.func65,Tryz.ntmps65
 go_wp2_with fail
 refine HO.out.mono ?_;rintro e w1⟨rfl,hb1⟩;rw [HV.out]
 go_wp2_with fail
 obtain⟨W2,hW2⟩:∃W2,W2=w1.alloc (.cells #[.int .i64 (li:Int),.int .i64 (n:Int),.int .i64 (tb:Int),.int .i64 (dt:Int)] 73):=⟨_,rfl⟩;have hS2:BH W2 w1.heap.size 73 [.int .i64 (li:Int),.int .i64 (n:Int),.int .i64 (tb:Int),.int .i64 (dt:Int)]:=by rw [hW2];exact heap_alloc_new _ _
 have hb2:Below w.heap.size w W2:=by rw [hW2];exact hb1.alloc hb1.size _
 rw [<-hW2];obtain⟨y0,y1,y2,y3,f0,f1,f2,f3⟩:=Cb hS2;have Ah1:BH (W2.alloc (.cells zc 23)) w1.heap.size 73 [.int .i64 (li:Int),.int .i64 (n:Int),.int .i64 (tb:Int),.int .i64 (dt:Int)]:=(heap_alloc_old _ _ hS2.lt).trans hS2;obtain⟨x0,x1,x2,x3,_,_,_,_⟩:=Cb Ah1;have HS2:=Aa hS2;have HB2:=Aa hb2;clear hW2 hS2 Ah1 hb2 hb1 HO;go_region;obtain⟨W4,UI⟩:∃W4,W4=((W2.alloc (.cells zc 23)).alloc (.cells #[.pointer (some ⟨d,0,none⟩),.int .i64 (li:Int),.int .i64 (n:Int),.int .i64 (tb:Int),.int .i64 (dt:Int),.slice none 0 0,.slice (some ⟨W2.heap.size,0,none⟩) n n] 131)).drew:=⟨_,rfl⟩;have e1:(W2.alloc (.cells zc 23)).heap.size=W2.heap.size+1:=by simp
 have hP4:BH W4 (W2.heap.size+1) 131 [.pointer (some ⟨d,0,none⟩),.int .i64 (li:Int),.int .i64 (n:Int),.int .i64 (tb:Int),.int .i64 (dt:Int),.slice none 0 0,.slice (some ⟨W2.heap.size,0,none⟩) n n]:=by
  rw [UI,<-e1];exact heap_alloc_new _ _
 have hZ4:W4.heap[W2.heap.size]? =some (.cells zc 23 (0,0)):=by
  rw [UI];exact(heap_alloc_old _ _ (by omega)).trans (heap_alloc_new _ _)
 have hS4:BH W4 w1.heap.size 73 [.int .i64 (li:Int),.int .i64 (n:Int),.int .i64 (tb:Int),.int .i64 (dt:Int)]:=by
  have:=HS2.out.lt;rw [UI];exact(heap_alloc_old _ _ (by omega)).trans ((heap_alloc_old _ _ this).trans HS2.out)
 have hb4:Below w.heap.size w W4:=by
  have:=HB2.out.size;rw [UI];exact((HB2.out.alloc this _).alloc (by omega) _).trans ((Dr.drew _).below _)
 rw [<-UI];have hws:=HB2.out.size;have hs2:=HS2.out.lt;have fB:W4.heap.size=W2.heap.size+1+1:=by rw [UI];show(Array.size _)=_;simp
 clear UI x0 x1 x2 x3 y0 y1 y2 y3 f0 f1 f2 f3 e1;obtain⟨p0,hp0⟩:∃p0,W2.heap.size+1=p0:=⟨_,rfl⟩;obtain⟨h0,hh0⟩:∃h0,W2.heap.size=h0:=⟨_,rfl⟩;obtain⟨s0,hs0⟩:∃s0,w1.heap.size=s0:=⟨_,rfl⟩;rw [hp0]at hP4 fB⊢;rw [hh0]at hP4 hZ4 hws hs2 hp0⊢;rw [hs0]at hS4 hs2⊢;obtain⟨y0,y1,y2,y3,f0,f1,f2,f3⟩:=Cb hS4;have HP4:=Aa hP4;have HZ4:=Aa hZ4;have dC:=Aa hS4;have HB4:=Aa hb4;clear hP4 hZ4 hS4 hb4 HS2 HB2 HV
 go_wp2_with fail
 go_loopw [27](fun i wr=>∃k v,k<=n/\i= .int .i64 (k:Nat)/\BH wr p0 131 [.pointer (some ⟨d,0,none⟩),.int .i64 (li:Int),.int .i64 (n:Int),.int .i64 (tb:Int),.int .i64 (dt:Int),v,.slice (some ⟨h0,0,none⟩) n n]/\
  ((k=0/\v= .slice none 0 0)\/∃g c,v= .slice (some ⟨g,0,none⟩) k c/\p0<g)/\wr.ownsRow w.heap.size 23 1 v k ((wordsAt ws (tb/8) k).map wv)/\Below p0 W4 wr/\∀i,i<k->FK (ws (tb/8+i)).toNat=true)(fun i _=>n- (intOf i).toNat)
 case atStart=>exact⟨0,_,BA _,rfl,HP4.out,.inl ⟨rfl,rfl⟩,World.ownsRow_nil _ _ _ _,Below.refl _ _,fun i hi=>absurd hi (Nat.not_lt_zero _)⟩
 case round=>
  obtain⟨k,v,hk,rfl,hP,hv,hrow,hbl,hal⟩:=hrel;have hbw:Below w.heap.size w wr:=HB4.out.trans (hbl.mono (by omega));have y3':=hP.cell 3;simp only [Ae,Ac]at y3';have HEn:=Aa (tK p0 tb k wr y3' Akh (by omega));have wQ:=Aa hP;have HVk:=Aa hv;have gp:=Aa hrow;have aJ:=Aa hbl;have gq:=Aa hbw;have pY:=Aa hal;clear hP hv hrow hbl y3' hal;by_cases hlt:k<n
  ·obtain⟨gd,hbd,hrd,hod⟩:=HDb.out _ hbw;have HG:=aj d L ws _ _ gd hbd (tb/8+k) 1 wr hL0 hL hrd (by have:=tN.out.fits;have:=tN.out.NR;have:=Ah0.out;omega);rw [show((8*(tb/8+k):Nat):Int)=(tb:Int)+8*(k:Int)by have:=Ah0.out;omega]at HG;have HG:=Aa HG;clear hrd hod hbw
   go_wp2_with fail
   refine HEn.out.mono ?_;rintro e w'⟨rfl,rfl⟩
   go_wp2_with fail
   refine HG.out.mono ?_;rintro e w3⟨v3,rfl,ho3,hb3⟩;obtain⟨A3,c3,rfl,hc3,hr3⟩:=BU ho3;obtain⟨g3,rfl,hg3,Aki⟩:=Me ho3 (by omega);have hc0:w3.cell? ⟨g3,0,none⟩=some (.int .u64 ((ws (tb/8+k)).toNat:Int)):=by
    obtain⟨b,off,e,_,hc⟩:=hr3.2 (by omega);injection e with e;injection e with e1 e2;subst e1 e2
    rw [hc 0 (by omega)];simp [NQ,wv]
   have dD:=Aa (Ri (ws (tb/8+k)).toNat · (UInt64.toNat_lt _));by_cases hR:FK (ws (tb/8+k)).toNat=true
   case neg=>
    have J7:FK (ws (tb/8+k)).toNat=false:=by simpa using hR
    rw [J7]at dD;have HNR:=Aa hR;have HB3:=Aa (gq.out.trans (hb3.mono gq.out.size));obtain⟨x,hx⟩:∃x,ws (tb/8+k)=x:=⟨_,rfl⟩;rw [hx]at hc0 dD;clear ho3 hr3 hb3 hx hR J7 HG HEn
    go_wp2_with fail
    refine(dD.out _).mono ?_;rintro e w5⟨rfl,hd5⟩;have MF:=Aa (HB3.out.trans ((hd5.below _).mono HB3.out.size));clear hd5 HB3 dD hc0
    go_wp2_with fail
    go_ret2;have e1:sh.table/8=tb/8:=by rw [HTb.out]
    exact⟨MF.out,fun h=>absurd (by have:=h k (by rw [hn];exact hlt);rw [e1]at this;exact this) HNR.out,fun _=>rfl⟩
   rw [hR]at dD;have hP3:=wQ.out.below hb3 wQ.out.lt;have Amn:p0<g3:=by have:=wQ.out.lt;omega
   have hrow3:=own_below gp.out hb3;have Ah2:=aJ.out.trans (hb3.mono (FB wQ.out.lt));have aK:=Aa hP3;have Ah3:=Aa hrow3;have Ah4:=Aa Ah2;obtain⟨x,hx⟩:∃x,ws (tb/8+k)=x:=⟨_,rfl⟩;rw [hx]at hc0 dD;have HX:=Aa hx;have HAk:Hid (∀i,i<k+1->FK (ws (tb/8+i)).toNat=true):=Aa (fun i hi=>by
    rcases Nat.lt_succ_iff_lt_or_eq.1 hi with h| h
    ·exact pY.out i h
    ·subst h;rw [hx];rw [<-hx];exact hR)
   clear ho3 hr3 hb3 hP3 hrow3 Ah2 hx hR HG HEn
   go_wp2_with fail
   refine(dD.out _).mono ?_;rintro e w5⟨rfl,hd5⟩;have hb5:=hd5.below w3.heap.size;have hP5:=aK.out.below hb5 aK.out.lt;have hc5:=(hb5.cell (p:=⟨g3,0,none⟩) Aki).trans hc0;have Ad0:=own_below Ah3.out hb5;have Ah5:=Ah4.out.trans (hb5.mono (FB aK.out.lt));have z5:=hP5.cell 5;have f5:=hP5.frozen 5;have hp5:=hP5.lt;simp only [Ae,Ac]at z5;have HP5:=Aa hP5;have Akj:=Aa Ad0;have Ah6:=Aa Ah5;have hw5:w.heap.size<=w5.heap.size:=by omega
   clear hd5 hb5 hP5 Ad0 Ah5 hc0 aK Ah3 Ah4 dD;obtain⟨wd,hwd⟩:∃wd,wd=w5.drew:=⟨_,rfl⟩
   go_wp2_with fail
   go_region_law(refine Lp rfl (.tmp 50) (.tmp 54) 129 rfl Tryz.yt w5 w.heap.size v k ((wordsAt ws (tb/8) k).map wv) [.int .u64 (x.toNat:Int)] rfl Akj.out rfl rfl rfl rfl w5.heap.size 1 rfl rfl rfl (by decide) (by intro u hu;simp at hu;subst hu;rfl) (by omega) (by decide) hw5 ?_;intro g6 c6 w6 WV TM hK6 dE;have hng:some p0≠v.ownBlock:=(fun e=>by rcases HVk.out with⟨_,h⟩| ⟨g,c,h,hlt⟩<;>(subst h;simp [Value.ownBlock]at e);omega);have z6:=(World.cell?_of_block (w:=w5) (a:=⟨p0,5,none⟩) (hK6.2 p0 hp5 hng)).trans z5;have f6:=(World.frozen?_of_block (w:=w5) (a:=⟨p0,5,none⟩) (hK6.2 p0 hp5 hng)).trans f5)
   all_goals(obtain⟨q1,q2,q3,q4⟩:=lT HX.out (by omega) HP5.out HVk.out Ah6.out Ah6.out.size WV TM hK6 dE)
   all_goals(have Q1:=Aa q1)
   all_goals(have Q3:=Aa q3)
   all_goals(have Q4:=Aa q4)
   all_goals(clear q1 q3 q4 WV TM hK6 dE hng z6 f6 z5 f5 hc5)
   all_goals(go_wp2_with fail)
   all_goals(go_roundw)
   all_goals(try(case rel=>exact⟨k+1,_,by omega,by go_num,Q1.out,.inr ⟨g6,c6,rfl,q2⟩,Q3.out,Q4.out,HAk.out⟩))
   all_goals(try(simp [intOf];omega))
  ·have hkn:k=n:=by omega
   subst hkn
   go_wp2_with fail
   go_ret2;have hn0:0<k:=by rw [<-hn];exact tN.out.BQ
   rcases HVk.out with⟨h0',_⟩| ⟨g,c,rfl,hgp⟩
   ·omega
   have hlt:=HLt.out;have hrow:=gp.out;have hZ:=(aJ.out.block h0 (by omega)).trans HZ4.out;have hgl:=Me hrow hn0;have htl:=hT.lt;have e1:sh.table/8=tb/8:=by rw [HTb.out]
   refine⟨gq.out,fun _=> ?_,fun⟨i,hi,hni⟩=>absurd (by rw [e1];exact pY.out i (by rw [<-hn];exact hi)) hni⟩;refine⟨p0,fun b=>own b\/b=p0\/b=g\/b=h0,rfl,⟨g,h0,k,c,k,own,⟨HDb.out _ gq.out,hL0,hL,HSh.out,?_,?_,?_,?_,?_,?_,(BK hrow).1,Ad _,fun h=> ?_,fun h=> ?_,fun h=> ?_,by omega,by omega,by omega,hT.below gq.out,?_,?_⟩,fun _=>Iff.rfl⟩,fun b hb=> ?_⟩
   ·show BH wr p0 _ _;rw [pX,hn,HTb.out,hdt];exact wQ.out
   ·rw [hn,e1];exact PO.KY hrow
   ·refine⟨zc,hZ,fun t ht=> ?_⟩;have ht':t<k:=by rw [List.length_replicate,hn]at ht;exact ht
    rw [<-Array.getElem?_toList,<-hzc,J9,BC,Gz,if_pos ht',dK];rfl
   ·simp [wordsAt,hn]
   ·simp [hn]
   ·exact hn.symm
   ·have:=hlt _ h;omega
   ·have:=hlt _ h;omega
   ·have:=hlt _ h;omega
   ·rintro(h| h| h| h)
    ·exact g1 h
    ·omega
    ·omega
    ·omega
   ·rintro(h| h| h| h)
    ·exact g2 h
    ·omega
    ·omega
    ·omega
   ·rcases hb with h| h| h| h
    ·exact .inl h
    ·right;omega
    ·right;omega
    ·right;omega
theorem tV{len:Nat->Nat}{w:World}{d L:Nat}{ws:Nat->UInt64}{own:Nat->Prop}{sh:Sh}(hL0:0<L)(hL:L<=1024)(hs:shapeOf L=some sh)(h:Dev w d L ws len (fun _=>0) own)(hT:Tabs w)(g1:¬own 0)(g2:¬own 1)
 (h8:wordsAt ws 0 8=wordsOf sh)(hall:∀i,i<sh.BQ->FK (ws (sh.table/8+i)).toNat=true):
 Calls Tryz.prog 65 #[.pointer (some ⟨d,0,none⟩)] w fun e w'=>∃p F,e= .returned (.tuple #[.pointer (some ⟨p,0,none⟩),.int .i64 0])/\
  GU len w' d p L {sh:=sh,ws:=ws,tk:=wordsAt ws (sh.table/8) sh.BQ,hd:=Bf sh.BQ 0} F/\Below w.heap.size w w'/\∀b,F b->own b\/w.heap.size<=b:=by
 refine(Yu hL0 hL hs h hT g1 g2 h8).mono ?_;rintro e w'⟨hb,h1,_⟩;obtain⟨p,F,he,hS,ho⟩:=h1 hall;exact⟨p,F,he,hS,hb,ho⟩
theorem lU(j n:Nat):CP (fun _=>0) j (Bf n 0)=fun _=>0:=by
 funext i;unfold CP;split
 ·rw [AZ,Gz];split<;>rfl
 ·rfl
theorem PQ(sh:Sh):(wordsOf sh).length=8:=rfl
theorem gu(sh:Sh):wordsAt (Ov sh) 0 8=wordsOf sh:=by
 apply DX
 ·rfl
 ·intro i h1 h2;have hi:i<8:=by simpa [wordsAt]using h1
  have h8:=PQ sh;simp only [wordsAt,P5,TS];unfold Ov CP;rw [if_pos (by omega),AZ,show 0+i-0=i by omega,Af h2];rfl
theorem Gt(sh:Sh)(i:Nat)(hi:8<=i):Ov sh i=0:=by
 unfold Ov CP;have h8:=PQ sh;rw [if_neg (by omega)]
def st0(sh:Sh):St:={sh:=sh,ws:=Ov sh,tk:=Bf sh.BQ 0,hd:=Bf sh.BQ 0}
theorem aN(sh:Sh)(h:sh.table=128):wordsAt (Ov sh) (sh.table/8) sh.BQ=Bf sh.BQ 0:=by
 apply DX
 ·simp [wordsAt]
 ·intro i h1 h2;simp only [wordsAt,P5,TS,dK];exact Gt sh _ (by omega)
theorem lV{w:World}{L:Nat}{sh:Sh}(hL0:0<L)(hL:L<=1024)(hs:shapeOf L=some sh)(hT:Tabs w):
 Calls Tryz.prog 39 #[.int .i64 (L:Int)] w fun e w'=>∃d p F,e= .returned (.tuple #[.pointer (some ⟨d,0,none⟩),.pointer (some ⟨p,0,none⟩)])/\
  Sys w' d p L (st0 sh) F/\Below w.heap.size w w'/\∀b,F b->w.heap.size<=b:=by
 have htl:=hT.lt;obtain⟨v0,v1,v2,v3,hsv⟩:∃v0 v1 v2 v3:Nat,lM sh= .agg #[.int .i64 (v0:Int),.int .i64 (v1:Int),.int .i64 (v2:Int),.int .i64 (v3:Int)]:=⟨_,_,_,_,rfl⟩;have HSV:=Aa hsv;have HTb:=Aa (Jn hs).table;clear hsv;go_enter Tryz.func39,Tryz.ntmps39
 go_wp2_with fail
 refine(Abp L w hL0 hL).mono ?_;rintro e w1⟨d,g,rfl,hr,hd1,hg1,hb1⟩;have hD1:Dev w1 d L (fun _=>0) (fun _=>0) (fun _=>0) (EO d L g (fun _=>none)):=⟨g,_,hr,fun _=>Iff.rfl⟩;have ho1:∀b,EO d L g (fun _=>none) b->w.heap.size<=b:=fun b h=>by
  rcases h with h| h| ⟨_,_,h⟩
  ·omega
  ·omega
  ·cases h
 have HF:=lQ hL0 hL hs hD1 (hT.below hb1) (fun h=>by have:=ho1 _ h;omega) (fun h=>by have:=ho1 _ h;omega);rw [lU,show CP (fun _=>0) 0 (wordsOf sh)=Ov sh from rfl,HSV.out]at HF;have HF:=Aa HF;clear hr hD1
 go_wp2_with fail
 refine HF.out.mono ?_;rintro e w2⟨rfl,yg,hD2,hM2⟩;have hb2:Below w.heap.size w w2:=hb1.trans (hM2.touch.below hb1.size ho1);have ho2:∀b,yg b->w.heap.size<=b:=fun b h=>(hM2.own b h).elim (ho1 b) (fun h=>AL hb1.size h)
 have ET:Below w2.heap.size w2 (w2.alloc (.cells #[.int .i64 (v0:Int),.int .i64 (v1:Int),.int .i64 (v2:Int),.int .i64 (v3:Int)] 73)):=(Below.refl _ _).alloc (Ad _) _;have hb3:=hb2.trans (ET.mono hb2.size);have HO:=tV hL0 hL hs (hD2.below ET) (hT.below hb3) (fun h=>by have:=ho2 _ h;omega) (fun h=>by have:=ho2 _ h;omega) (gu sh) (fun i hi=>by rw [Gt sh _ (by rw [HTb.out];omega)];rfl);rw [aN sh HTb.out]at HO;have HO:=Aa HO;have HB3:=Aa hb3;clear hb2 ET hD2 hM2 HF hb3
 go_wp2_with fail
 refine HO.out.mono ?_;rintro e w4⟨p,F,rfl,hs4,hb4,hF4⟩;have dC:Hid (Sys w4 d p L (st0 sh) F):=Aa hs4;have HB4:=Aa (HB3.out.trans (hb4.mono HB3.out.size));clear hs4 hb4 HO;have hsz:=HB3.out.size
 go_wp2_with fail
 go_ret2;refine⟨d,p,F,rfl,dC.out,HB4.out,fun b hb=>(hF4 b hb).elim (ho2 b) (fun h=>AL hsz h)⟩
theorem Aby{n many k:Nat}(h:ZJ n many=some k):n.testBit k=false:=by
 unfold ZJ at h;have:=VL h;simpa using this
structure Bz(L:Nat)(s:St):Prop where
 sh:Yq L s.sh
 L1:L<=1024
 Pn:s.tk.length=s.sh.BQ
 jW:s.hd.length=s.sh.BQ
 tk:∀i,i<s.sh.BQ->OkW (Gl s i)
 hd:∀i,i<s.sh.BQ->OkW (hdN s i)
 cls:∀i,i<s.sh.BQ->Gl s i=0\/hdN s i=0\/AU (Gl s i)=AU (hdN s i)
 gy:∀i a,i<s.sh.BQ->En (Gl s i) a=true->En (hdN s i) a=false
 tab:∀i,i<s.sh.BQ->s.ws (16+i)=s.tk.getD i 0
def AO(s:St)(off c:Nat):Prop:=∃i a,i<s.sh.BQ/\En (Gl s i) a=true/\AU (Gl s i)=c/\off=Ce s.sh i c a
def EP(s:St)(off c:Nat):Prop:=∃i a,i<s.sh.BQ/\En (hdN s i) a=true/\AU (hdN s i)=c/\off=Ce s.sh i c a
theorem Eh{c:Nat}(h:c=1\/c=2):AQ c*Ba c=16/\0<AQ c/\0<Ba c/\AQ c<=4:=by
 rcases h with rfl| rfl<;>decide
theorem KH{sh:Sh}{i c a:Nat}(hc:c=1\/c=2)(ha:a<Ba c):sh.data+1024*i<=Ce sh i c a/\Ce sh i c a+64*AQ c<=sh.data+1024*(i+1):=by
 obtain⟨h1,h2,h3,_⟩:=Eh hc;unfold Ce;have h4:AQ c*(a+1)<=16:=by rw [<-h1];exact RX _ ha
 rw [oZ,J3]at h4;rw [L8];omega
theorem Ud{sh:Sh}{i j c d a b:Nat}(hc:c=1\/c=2)(hd:d=1\/d=2)(ha:a<Ba c)(hb:b<Ba d)(h:Ce sh i c a=Ce sh j d b):i=j:=by
 have h1:=KH (sh:=sh) (i:=i) hc ha;have h2:=KH (sh:=sh) (i:=j) hd hb;have h3:=(Eh hc).2.1;have h4:=(Eh hd).2.1;rcases xe i j with h5| h5| h5
 ·omega
 ·exact h5
 ·omega
theorem Ro{sh:Sh}{i c a b:Nat}(hc:c=1\/c=2)(h:Ce sh i c a=Ce sh i c b):a=b:=by
 unfold Ce at h;have h2:=(Eh hc).2.1;have:64*AQ c*a=64*AQ c*b:=by omega
 exact Nat.eq_of_mul_eq_mul_left (by omega) this
theorem UJ{sh:Sh}{i j c d a b:Nat}(hc:c=1\/c=2)(hd:d=1\/d=2)(ha:a<Ba c)(hb:b<Ba d)(hcd:i=j->c=d)(h:Ce sh i c a≠Ce sh j d b):
 Ce sh i c a+64*AQ c<=Ce sh j d b\/Ce sh j d b+64*AQ d<=Ce sh i c a:=by
 have h1:=KH (sh:=sh) (i:=i) hc ha;have h2:=KH (sh:=sh) (i:=j) hd hb;rcases xe i j with h5| h5| h5
 ·omega
 ·subst h5;obtain rfl:=hcd rfl;have hab:a≠b:=fun e=>h (by rw [e])
  unfold Ce;rcases Nat.lt_or_gt_of_ne hab with h6| h6
  ·have:=RX (64*AQ c) h6;rw [qZ,oZ,J3]at this;omega
  ·have:=RX (64*AQ c) h6;rw [qZ,oZ,J3]at this;omega
 ·omega
section
variable{L:Nat}{s:St}
theorem Bz.both(ok:Bz L s){i:Nat}(hi:i<s.sh.BQ):OkW (Gl s i||| hdN s i)/\(∀a,En (Gl s i||| hdN s i) a=(En (Gl s i) a|| En (hdN s i) a))/\(Gl s i≠0->AU (Gl s i||| hdN s i)=AU (Gl s i))/\(hdN s i≠0->AU (Gl s i||| hdN s i)=AU (hdN s i)):=rP (ok.tk i hi) (ok.hd i hi) (ok.cls i hi)
theorem Bz.O9(ok:Bz L s){i a:Nat}(hi:i<s.sh.BQ)(ha:En (Gl s i) a=true):∃c,SW (Gl s i) c/\AU (BJ s i)=c/\a<Ba c:=by
 obtain⟨c,hS,hb,_⟩:=(ok.tk i hi).PG ha;exact⟨c,hS,by unfold BJ;rw [(ok.both hi).2.2.1 hS.ne,hS.class],hb⟩
theorem Bz.WW(ok:Bz L s){i a:Nat}(hi:i<s.sh.BQ)(ha:En (hdN s i) a=true):∃c,SW (hdN s i) c/\AU (BJ s i)=c/\a<Ba c:=by
 obtain⟨c,hS,hb,_⟩:=(ok.hd i hi).PG ha;exact⟨c,hS,by unfold BJ;rw [(ok.both hi).2.2.2 hS.ne,hS.class],hb⟩
theorem Rq(ok:Bz L s){i c a:Nat}(hi:i<s.sh.BQ)(hc:AU (BJ s i)=c)(h12:c=1\/c=2)(ha:a<Ba c):J4 s (Ce s.sh i c a:Nat)=some (i,a):=by
 have h1:=KH (sh:=s.sh) (i:=i) h12 ha;obtain⟨h2,h3,h4,h5⟩:=Eh h12;have hlen:=ok.Pn;have e1:(Ce s.sh i c a-s.sh.data)/1024=i:=by omega
 have e2:(Ce s.sh i c a-s.sh.data)%1024=64*AQ c*a:=by
  have:Ce s.sh i c a-s.sh.data=1024*i+64*AQ c*a:=by unfold Ce;omega
  omega
 unfold J4;rw [if_neg (by omega)];simp only [Int.toNat_natCast,e1,e2,hc];rw [if_neg (by rw [Nat.mul_mod_right];omega),Nat.mul_div_cancel_left _ (by omega)]
theorem yu(ok:Bz L s){off:Int}{i a:Nat}(h:J4 s off=some (i,a)):i<s.sh.BQ/\(AU (BJ s i)=1\/AU (BJ s i)=2)/\a<Ba (AU (BJ s i))/\off=(Ce s.sh i (AU (BJ s i)) a:Nat):=by
 have hlen:=ok.Pn;unfold J4 at h;split at h
 ·cases h
 ·rename_i h1;split at h
  ·cases h
  ·rename_i h2;simp only [Option.some.injEq,Prod.mk.injEq]at h;obtain⟨rfl,rfl⟩:=h;have hi:(off.toNat-s.sh.data)/1024<s.sh.BQ:=by omega
   generalize hc:AU (BJ s ((off.toNat-s.sh.data)/1024))=c at h2⊢;have h12:c=1\/c=2:=by
    unfold AQ at h2;split at h2
    ·exact .inl rfl
    ·exact .inr rfl
    ·simp at h2
   obtain⟨h3,h4,h5,h6⟩:=Eh h12;have hdm:=Nat.div_add_mod ((off.toNat-s.sh.data)%1024) (64*AQ c);have hmod:(off.toNat-s.sh.data)%1024%(64*AQ c)=0:=by omega
   have hlt:(off.toNat-s.sh.data)%1024<1024:=Nat.mod_lt _ (by decide);refine⟨hi,h12,?_,?_⟩
   ·refine Nat.div_lt_of_lt_mul ?_;rw [L8,h3];exact hlt
   ·unfold Ce;rw [hmod,Nat.add_zero]at hdm;rw [hdm];omega
theorem AO.cls(ok:Bz L s){off c:Nat}(h:AO s off c):c=1\/c=2:=by
 obtain⟨i,a,hi,ha,rfl,_⟩:=h;obtain⟨c,hS,_,_⟩:=ok.O9 hi ha;rw [hS.class];exact hS.cls
theorem AO.class(ok:Bz L s){off c:Nat}(h:AO s off c):Dc s off=c:=by
 have h12:=h.cls ok;obtain⟨i,a,hi,ha,hc,rfl⟩:=h;obtain⟨d,hS,hb,hlt⟩:=ok.O9 hi ha;have e:c=d:=by rw [<-hc,hS.class]
 subst e;unfold Dc;rw [Rq ok hi hb h12 hlt];simp only [ha,if_true,hc]
theorem WX(ok:Bz L s){off:Int}{c:Nat}(h:Dc s off=c)(h0:c≠0):∃o:Nat,off=o/\AO s o c:=by
 unfold Dc at h;split at h
 ·exact absurd h.symm h0
 ·rename_i i a hf;obtain⟨hi,h12,hlt,he⟩:=yu ok hf;split at h
  ·rename_i ha;obtain⟨d,hS,hb,_⟩:=ok.O9 hi ha;refine⟨_,he,i,a,hi,ha,h,?_⟩;rw [hb,<-h,hS.class]
  ·exact absurd h.symm h0
theorem AO.bounds(ok:Bz L s){off c:Nat}(h:AO s off c):s.sh.data<=off/\off+64*AQ c<=64*L/\off%64=0:=by
 have h12:=h.cls ok;obtain⟨i,a,hi,ha,hc,rfl⟩:=h;obtain⟨d,hS,hb,hlt⟩:=ok.O9 hi ha;have e:c=d:=by rw [<-hc,hS.class]
 subst e;have h1:=KH (sh:=s.sh) (i:=i) h12 hlt;have:=ok.sh.fits;have:=ok.sh.data;refine⟨by omega,by omega,?_⟩;unfold Ce;rw [L8];omega
theorem EP.cls(ok:Bz L s){off c:Nat}(h:EP s off c):c=1\/c=2:=by
 obtain⟨i,a,hi,ha,rfl,_⟩:=h;obtain⟨c,hS,_,_⟩:=ok.WW hi ha;rw [hS.class];exact hS.cls
theorem EP.bounds(ok:Bz L s){off c:Nat}(h:EP s off c):s.sh.data<=off/\off+64*AQ c<=64*L/\off%64=0:=by
 have h12:=h.cls ok;obtain⟨i,a,hi,ha,hc,rfl⟩:=h;obtain⟨d,hS,hb,hlt⟩:=ok.WW hi ha;have e:c=d:=by rw [<-hc,hS.class]
 subst e;have h1:=KH (sh:=s.sh) (i:=i) h12 hlt;have:=ok.sh.fits;have:=ok.sh.data;refine⟨by omega,by omega,?_⟩;unfold Ce;rw [L8];omega
theorem gz(ok:Bz L s){o p c d:Nat}(h:AO s o c)(k:AO s p d)(hne:o≠p):o+64*AQ c<=p\/p+64*AQ d<=o:=by
 have h12:=h.cls ok;have k12:=k.cls ok;obtain⟨i,a,hi,ha,hc,rfl⟩:=h;obtain⟨j,b,hj,hb,hd,rfl⟩:=k;obtain⟨c',hS,_,hlt⟩:=ok.O9 hi ha;obtain⟨d',hS',_,hlt'⟩:=ok.O9 hj hb;rw [hS.class]at hc;rw [hS'.class]at hd;subst hc hd;refine UJ h12 k12 hlt hlt' (fun e=> ?_) hne;subst e;rw [<-hS.class,<-hS'.class]
theorem OA(ok:Bz L s){o p c d:Nat}(h:EP s o c)(k:AO s p d):o≠p/\(o+64*AQ c<=p\/p+64*AQ d<=o):=by
 have h12:=h.cls ok;have k12:=k.cls ok;obtain⟨i,a,hi,ha,hc,rfl⟩:=h;obtain⟨j,b,hj,hb,hd,rfl⟩:=k;obtain⟨c',hS,fH,hlt⟩:=ok.WW hi ha;obtain⟨d',hS',Aep,hlt'⟩:=ok.O9 hj hb;rw [hS.class]at hc;rw [hS'.class]at hd;subst hc hd;have hcd:i=j->c'=d':=fun e=>by subst e;rw [<-fH,<-Aep]
 have hne:Ce s.sh i c' a≠Ce s.sh j d' b:=fun e=>by
  obtain rfl:=Ud h12 k12 hlt hlt' e;obtain rfl:=hcd rfl;obtain rfl:=Ro h12 e;rw [ok.gy i a hi hb]at ha;cases ha
 exact⟨hne,UJ h12 k12 hlt hlt' hcd hne⟩
end
theorem Dj{n:Nat}(h:n<2^64):(UInt64.ofNat n).toNat=n:=by
 rw [UInt64.toNat_ofNat'];exact Ep h
theorem NS{α:Type}(l:List α)(i j:Nat)(x z:α)(hi:i<l.length):(l.set i x).getD j z=if j=i then x else l.getD j z:=by
 rw [AZ,AZ,List.getElem?_set];by_cases h:i=j
 ·subst h;simp [hi]
 ·rw [if_neg h,if_neg (fun e=>h e.symm)]
section
variable{L:Nat}{s:St}
theorem Bz.table(ok:Bz L s):s.sh.table=128:=ok.sh.table
theorem Bz.words(ok:Bz L s){ws':Nat->UInt64}(h:∀i,i<s.sh.BQ->ws' (16+i)=s.ws (16+i)):Bz L {s with ws:=ws'}:=
 ⟨ok.sh,ok.L1,ok.Pn,ok.jW,ok.tk,ok.hd,ok.cls,ok.gy,fun i hi=>(h i hi).trans (ok.tab i hi)⟩
def FY(off c j:Nat):Prop:=off/8<=j/\j<off/8+8*AQ c
theorem PR{o p c d j:Nat}(h:o+64*AQ c<=p\/p+64*AQ d<=o)(ho:o%64=0)(hp:p%64=0)(k:FY o c j):¬FY p d j:=by
 unfold FY at*;omega
theorem Bz.Dz(ok:Bz L s){off c j:Nat}(h1:s.sh.data<=off)(h2:FY off c j):16+s.sh.BQ<=j:=by
 have:=ok.sh.NR;unfold FY at h2;omega
theorem aO{c i a:Nat}(h:Kq s c=some i)(h2:Ji (BJ s i) c=some a):i<s.tk.length/\(AU (BJ s i)=c\/AU (BJ s i)=0):=by
 unfold Kq at h;split at h
 ·rename_i j hj;injection h with h;subst h
  unfold JD at hj;have h3:=VL hj;have h4:=YB hj;rw [Bool.and_eq_true,decide_eq_true_eq]at h3;exact⟨List.mem_range.1 h4,.inl h3.1⟩
 ·unfold JD at h;have h3:=VL h;have h4:=YB h;rw [Bool.and_eq_true,decide_eq_true_eq]at h3;exact⟨List.mem_range.1 h4,.inr h3.1⟩
theorem Rt(ok:Bz L s){c off:Nat}{s1:St}(hc:c=1\/c=2)(h:CJ s c=some (off,s1)):
 Bz L s1/\s1.ws=s.ws/\s1.sh=s.sh/\s1.tk=s.tk/\EP s1 off c/\(∀o d,EP s o d->EP s1 o d)/\(∀o d,EP s1 o d->EP s o d\/o=off)/\∀o d,AO s1 o d<->AO s o d:=by
 unfold CJ at h;split at h
 ·cases h
 ·rename_i i hi;split at h
  ·cases h
  ·rename_i a ha;simp only [Option.some.injEq,Prod.mk.injEq]at h;obtain⟨rfl,rfl⟩:=h;obtain⟨hilt,hcl⟩:=aO hi ha;have hil:i<s.sh.BQ:=by rw [<-ok.Pn];exact hilt
   obtain⟨fH,hbh,hbt,Akk⟩:=ok.both hil;have hab:a<Ba c/\(IA (BJ s i)).testBit a=false:=by
    unfold Ji at ha;split at ha
    ·exact⟨az ha,Aby ha⟩
    ·cases ha
   have hb16:Ba c<=16:=by rcases hc with rfl| rfl<;>decide
   have hbit:(BJ s i).testBit a=false:=by
    have:=hab.2;unfold IA at this;rw [LC,Nat.zero_add,Bool.and_eq_false_iff,decide_eq_false_iff_not]at this;rcases this with h| h
    ·omega
    ·exact h
   have hnb:En (BJ s i) a=false:=by
    unfold En;rw [xC,hbit,Bool.and_false]
   have hnn:=hbh a;rw [show Gl s i||| hdN s i=BJ s i from rfl,hnb]at hnn;obtain⟨hnt,hnh⟩:En (Gl s i) a=false/\En (hdN s i) a=false:=by
    cases h1:En (Gl s i) a<;>cases h2:En (hdN s i) a<;>rw [h1,h2]at hnn<;>first| exact⟨rfl,rfl⟩| cases hnn
   have hdc:hdN s i=0\/SW (hdN s i) c:=by
    rcases ok.hd i hil with h1| ⟨d,h1⟩
    ·exact .inl h1
    ·have e:=Akk h1.ne;rw [show Gl s i||| hdN s i=BJ s i from rfl,h1.class]at e;have:=h1.cls;rcases hcl with h2| h2
     ·rw [e]at h2;subst h2;exact .inr h1
     ·omega
   have htc:Gl s i=0\/AU (Gl s i)=c:=by
    rcases ok.tk i hil with h1| ⟨d,h1⟩
    ·exact .inl h1
    ·have e:=hbt h1.ne;rw [show Gl s i||| hdN s i=BJ s i from rfl,h1.class]at e;have:=h1.cls;rcases hcl with h2| h2
     ·rw [e]at h2;subst h2;exact .inr h1.class
     ·omega
   obtain⟨_,hS,hhas⟩:=YH (ok.hd i hil) hc hdc hab.1 hnh;have hu:=Dj hS.lt;have hhd:∀j,hdN {s with hd:=s.hd.set i (UInt64.ofNat (Fh (hdN s i) c a).1)} j=if j=i then(Fh (hdN s i) c a).1 else hdN s j:=fun j=>by
    show((s.hd.set i _).getD j 0).toNat=_;rw [NS _ _ _ _ _ (by rw [ok.jW];exact hil)];split
    ·exact hu
    ·rfl
   have htk:∀j,Gl {s with hd:=s.hd.set i (UInt64.ofNat (Fh (hdN s i) c a).1)} j=Gl s j:=fun j=>rfl
   refine⟨⟨ok.sh,ok.L1,ok.Pn,by simp [ok.jW],ok.tk,fun j hj=> ?_,fun j hj=> ?_,fun j b hj hb=> ?_,ok.tab⟩,rfl,rfl,rfl,⟨i,a,hil,?_,?_,rfl⟩,?_,?_,fun o d=>Iff.rfl⟩
   ·rw [hhd];split
    ·exact .inr ⟨c,hS⟩
    ·exact ok.hd j hj
   ·rw [hhd,htk];by_cases e:j=i
    ·subst e;rw [if_pos rfl,hS.class];exact htc.imp id .inr
    ·rw [if_neg e];exact ok.cls j hj
   ·rw [hhd];rw [htk]at hb;by_cases e:j=i
    ·subst e;rw [if_pos rfl,hhas b,ok.gy j b hj hb,Bool.false_or,decide_eq_false_iff_not];intro e2;subst e2;rw [hnt]at hb;cases hb
    ·rw [if_neg e];exact ok.gy j b hj hb
   ·rw [hhd,if_pos rfl,hhas a];simp
   ·rw [hhd,if_pos rfl,hS.class]
   ·rintro o d⟨j,b,hj,hb,hd,ho⟩;refine⟨j,b,hj,?_,?_,ho⟩
    ·rw [hhd];by_cases e:j=i
     ·subst e;rw [if_pos rfl,hhas b,hb];rfl
     ·rw [if_neg e];exact hb
    ·rw [hhd];by_cases e:j=i
     ·subst e;obtain⟨d',hS',_,_⟩:=(ok.hd j hj).PG hb;rw [if_pos rfl,hS.class,<-hd];rcases hdc with h0| h0
      ·exact absurd h0 hS'.ne
      ·exact h0.class.symm
     ·rw [if_neg e];exact hd
   ·rintro o d⟨j,b,hj,hb,hd,ho⟩;rw [hhd]at hb hd;by_cases e:j=i
    ·subst e;rw [if_pos rfl]at hb hd;rw [hhas b,Bool.or_eq_true,decide_eq_true_eq]at hb;rw [hS.class]at hd;subst hd;rcases hb with hb| rfl
     ·obtain⟨d',hS',_,_⟩:=(ok.hd j hj).PG hb;refine .inl ⟨j,b,hj,hb,?_,ho⟩;rcases hdc with h0| h0
      ·exact absurd h0 hS'.ne
      ·exact h0.class
     ·exact .inr ho
    ·rw [if_neg e]at hb hd;exact .inl ⟨j,b,hj,hb,hd,ho⟩
theorem aP(ok:Bz L s){c off:Nat}(h:EP s off c):
 ∃s1,FX s off=(s1,0)/\Bz L s1/\s1.sh=s.sh/\(∀j,(j<16\/16+s.sh.BQ<=j)->s1.ws j=s.ws j)/\
  (∀o d,AO s1 o d<->AO s o d\/(o=off/\d=c))/\(∀o d,EP s1 o d<->EP s o d/\o≠off):=by
 have h12:=h.cls ok;have h':=h;obtain⟨i,a,hi,ha,hc,rfl⟩:=h';obtain⟨c',hS,fH,hlt⟩:=ok.WW hi ha;have e:c'=c:=by rw [<-hc,hS.class]
 subst e;have hnt:En (Gl s i) a=false:=by
  cases hb:En (Gl s i) a
  ·rfl
  ·rw [ok.gy i a hi hb]at ha;cases ha
 have htc:Gl s i=0\/SW (Gl s i) c':=by
  rcases ok.tk i hi with h1| ⟨d,h1⟩
  ·exact .inl h1
  ·rcases ok.cls i hi with h2| h2| h2
   ·exact absurd h2 h1.ne
   ·exact absurd h2 hS.ne
   ·rw [h1.class,hS.class]at h2;subst h2;exact .inr h1
 obtain⟨_,hT,qc⟩:=YH (ok.tk i hi) h12 htc hlt hnt;obtain⟨_,hD,PS,lW⟩:=YI (ok.hd i hi) ha;have hu1:=Dj hT.lt;have hu2:=Dj hD.lt;have yw:i<s.tk.length:=by rw [ok.Pn];exact hi
 have Abz:i<s.hd.length:=by rw [ok.jW];exact hi
 obtain⟨s1,hs1⟩:∃s1,s1=({ZN s i (UInt64.ofNat (Fh (Gl s i) (AU (hdN s i)) a).1)with hd:=s.hd.set i (UInt64.ofNat (EL (hdN s i) a).1)}:St):=⟨_,rfl⟩;have htk:∀j,Gl s1 j=if j=i then(Fh (Gl s i) c' a).1 else Gl s j:=fun j=>by
  rw [hs1];show((s.tk.set i _).getD j 0).toNat=_;rw [NS _ _ _ _ _ yw,hc];split
  ·exact hu1
  ·rfl
 have hhd:∀j,hdN s1 j=if j=i then(EL (hdN s i) a).1 else hdN s j:=fun j=>by
  rw [hs1];show((s.hd.set i _).getD j 0).toNat=_;rw [NS _ _ _ _ _ Abz];split
  ·exact hu2
  ·rfl
 have hsh:s1.sh=s.sh:=by rw [hs1];rfl
 have hws:∀j,s1.ws j=if j=16+i then UInt64.ofNat (Fh (Gl s i) c' a).1 else s.ws j:=fun j=>by
  rw [hs1];show FH s.ws (s.sh.table/8+i) _ j=_;rw [ok.table,hc];rfl
 refine⟨s1,?_,⟨by rw [hsh];exact ok.sh,ok.L1,by rw [hs1];show(s.tk.set i _).length=_;rw [BZ];exact ok.Pn,by rw [hs1];show(s.hd.set i _).length=_;rw [BZ];exact ok.jW,fun j hj=> ?_,fun j hj=> ?_,fun j hj=> ?_,fun j b hj hb=> ?_,fun j hj=> ?_⟩,hsh,fun j hj=> ?_,fun o d=> ?_,fun o d=> ?_⟩
 ·unfold FX;rw [Rq ok hi fH h12 hlt];simp only [ha,if_true];rw [hs1]
 ·rw [htk];split
  ·exact .inr ⟨_,hT⟩
  ·exact ok.tk j (by rw [<-hsh];exact hj)
 ·rw [hhd];split
  ·exact hD
  ·exact ok.hd j (by rw [<-hsh];exact hj)
 ·rw [htk,hhd];by_cases e:j=i
  ·rw [if_pos e,if_pos e,hT.class];rcases lW with h1| h1
   ·exact .inr (.inr (by rw [h1,hS.class]))
   ·exact .inr (.inl h1)
  ·rw [if_neg e,if_neg e];exact ok.cls j (by rw [<-hsh];exact hj)
 ·rw [htk]at hb;rw [hhd];by_cases e:j=i
  ·subst e;rw [if_pos rfl]at hb⊢;rw [qc,Bool.or_eq_true,decide_eq_true_eq]at hb;rw [PS];rcases hb with hb| rfl
   ·rw [ok.gy j b hi hb];rfl
   ·simp
  ·rw [if_neg e]at hb⊢;exact ok.gy j b (by rw [<-hsh];exact hj) hb
 ·rw [hws,hs1];show _=(s.tk.set i _).getD j 0;rw [NS _ _ _ _ _ yw,hc];by_cases e:j=i
  ·rw [if_pos (by omega),if_pos e]
  ·rw [if_neg (by omega),if_neg e];exact ok.tab j (by rw [<-hsh];exact hj)
 ·rw [hws,if_neg (by omega)]
 ·constructor
  ·rintro⟨j,b,hj,hb,hd,ho⟩;rw [hsh]at hj ho;rw [htk]at hb hd;by_cases e:j=i
   ·subst e;rw [if_pos rfl]at hb hd;rw [hT.class]at hd;subst hd;rw [qc,Bool.or_eq_true,decide_eq_true_eq]at hb;rcases hb with hb| rfl
    ·left;refine⟨j,b,hj,hb,?_,ho⟩;rcases htc with h0| h0
     ·rw [h0,Fp]at hb;cases hb
     ·exact h0.class
    ·exact .inr ⟨ho,rfl⟩
   ·rw [if_neg e]at hb hd;exact .inl ⟨j,b,hj,hb,hd,ho⟩
  ·rintro(⟨j,b,hj,hb,hd,ho⟩| ⟨rfl,rfl⟩)
   ·refine⟨j,b,by rw [hsh];exact hj,?_,?_,by rw [hsh];exact ho⟩
    ·rw [htk];by_cases e:j=i
     ·subst e;rw [if_pos rfl,qc,hb];rfl
     ·rw [if_neg e];exact hb
    ·rw [htk];by_cases e:j=i
     ·subst e;rw [if_pos rfl,hT.class,<-hd];rcases htc with h0| h0
      ·rw [h0,Fp]at hb;cases hb
      ·exact h0.class.symm
     ·rw [if_neg e];exact hd
   ·exact⟨i,a,by rw [hsh];exact hi,by rw [htk,if_pos rfl,qc];simp,by rw [htk,if_pos rfl,hT.class],by rw [hsh]⟩
 ·constructor
  ·rintro⟨j,b,hj,hb,hd,ho⟩;rw [hsh]at hj ho;rw [hhd]at hb hd;by_cases e:j=i
   ·subst e;rw [if_pos rfl]at hb hd;rw [PS,Bool.and_eq_true,Bool.not_eq_true',decide_eq_false_iff_not]at hb;have hd':d=c':=by
     rcases lW with h1| h1
     ·rw [h1,hS.class]at hd;exact hd.symm
     ·have:=PS b;rw [h1,Fp,hb.1]at this;simp [hb.2]at this
    subst hd';refine⟨⟨j,b,hj,hb.1,hS.class,ho⟩,fun e2=> ?_⟩;rw [ho]at e2;exact hb.2 (Ro h12 e2)
   ·rw [if_neg e]at hb hd;refine⟨⟨j,b,hj,hb,hd,ho⟩,fun e2=> ?_⟩;obtain⟨d',hS',Aep,hlt'⟩:=ok.WW hj hb;have e3:d'=d:=by rw [<-hd,hS'.class]
    subst e3;rw [ho]at e2;exact e (Ud hS'.cls h12 hlt' hlt e2)
  ·rintro⟨⟨j,b,hj,hb,hd,ho⟩,hne⟩;have hbi:j=i->b≠a:=fun e e2=>by
    subst e e2;have e3:d=c':=by rw [<-hd,hS.class]
    subst e3;exact hne ho
   refine⟨j,b,by rw [hsh];exact hj,?_,?_,by rw [hsh];exact ho⟩
   ·rw [hhd];by_cases e:j=i
    ·subst e;rw [if_pos rfl,PS,hb];simp [hbi rfl]
    ·rw [if_neg e];exact hb
   ·rw [hhd];by_cases e:j=i
    ·subst e;rw [if_pos rfl];rcases lW with h1| h1
     ·rw [h1];exact hd
     ·have:=PS b;rw [h1,Fp,hb]at this;simp [hbi rfl]at this
    ·rw [if_neg e];exact hd
theorem aQ(ok:Bz L s){c off:Nat}(h:AO s off c):
 ∃s1,EJ s off=(s1,0)/\Bz L s1/\s1.sh=s.sh/\s1.hd=s.hd/\(∀j,(j<16\/16+s.sh.BQ<=j)->s1.ws j=s.ws j)/\
  (∀o d,AO s1 o d<->AO s o d/\o≠off):=by
 have h12:=h.cls ok;obtain⟨i,a,hi,ha,hc,rfl⟩:=h;obtain⟨c',hS,fH,hlt⟩:=ok.O9 hi ha;have e:c'=c:=by rw [<-hc,hS.class]
 subst e;have hnh:En (hdN s i) a=false:=ok.gy i a hi ha;obtain⟨hD2,hD,PS,lW⟩:=YI (ok.tk i hi) ha;have hu2:=Dj hD.lt;have yw:i<s.tk.length:=by rw [ok.Pn];exact hi
 obtain⟨s1,hs1⟩:∃s1,s1=ZN s i (UInt64.ofNat (EL (Gl s i) a).1):=⟨_,rfl⟩;have htk:∀j,Gl s1 j=if j=i then(EL (Gl s i) a).1 else Gl s j:=fun j=>by
  rw [hs1];show((s.tk.set i _).getD j 0).toNat=_;rw [NS _ _ _ _ _ yw];split
  ·exact hu2
  ·rfl
 have hhd:∀j,hdN s1 j=hdN s j:=fun j=>by rw [hs1];rfl
 have hsh:s1.sh=s.sh:=by rw [hs1];rfl
 have hws:∀j,s1.ws j=if j=16+i then UInt64.ofNat (EL (Gl s i) a).1 else s.ws j:=fun j=>by
  rw [hs1];show FH s.ws (s.sh.table/8+i) _ j=_;rw [ok.table];rfl
 refine⟨s1,?_,⟨by rw [hsh];exact ok.sh,ok.L1,by rw [hs1];show(s.tk.set i _).length=_;rw [BZ];exact ok.Pn,by rw [hs1];exact ok.jW,fun j hj=> ?_,fun j hj=> ?_,fun j hj=> ?_,fun j b hj hb=> ?_,fun j hj=> ?_⟩,hsh,by rw [hs1];rfl,fun j hj=> ?_,fun o d=> ?_⟩
 ·unfold EJ;rw [Rq ok hi fH h12 hlt];have h0:(EL (hdN s i) a).2=false:=by unfold EL;rw [hnh];rfl
  simp only [h0,hD2,if_true,Bool.false_eq_true,if_false];rw [hs1]
 ·rw [htk];split
  ·exact hD
  ·exact ok.tk j (by rw [<-hsh];exact hj)
 ·rw [hhd];exact ok.hd j (by rw [<-hsh];exact hj)
 ·rw [htk,hhd];by_cases e:j=i
  ·rw [if_pos e,e];rcases lW with h1| h1
   ·rw [h1];rcases ok.cls i hi with h2| h2| h2
    ·exact absurd h2 hS.ne
    ·exact .inr (.inl h2)
    ·exact .inr (.inr h2)
   ·exact .inl h1
  ·rw [if_neg e];exact ok.cls j (by rw [<-hsh];exact hj)
 ·rw [htk]at hb;rw [hhd];by_cases e:j=i
  ·subst e;rw [if_pos rfl,PS,Bool.and_eq_true]at hb;exact ok.gy j b hi hb.1
  ·rw [if_neg e]at hb;exact ok.gy j b (by rw [<-hsh];exact hj) hb
 ·rw [hws,hs1];show _=(s.tk.set i _).getD j 0;rw [NS _ _ _ _ _ yw];by_cases e:j=i
  ·rw [if_pos (by omega),if_pos e]
  ·rw [if_neg (by omega),if_neg e];exact ok.tab j (by rw [<-hsh];exact hj)
 ·rw [hws,if_neg (by omega)]
 ·constructor
  ·rintro⟨j,b,hj,hb,hd,ho⟩;rw [hsh]at hj ho;rw [htk]at hb hd;by_cases e:j=i
   ·subst e;rw [if_pos rfl]at hb hd;rw [PS,Bool.and_eq_true,Bool.not_eq_true',decide_eq_false_iff_not]at hb;have hd':d=c':=by
     rcases lW with h1| h1
     ·rw [h1,hS.class]at hd;exact hd.symm
     ·have:=PS b;rw [h1,Fp,hb.1]at this;simp [hb.2]at this
    subst hd';refine⟨⟨j,b,hj,hb.1,hS.class,ho⟩,fun e2=> ?_⟩;rw [ho]at e2;exact hb.2 (Ro h12 e2)
   ·rw [if_neg e]at hb hd;refine⟨⟨j,b,hj,hb,hd,ho⟩,fun e2=> ?_⟩;obtain⟨d',hS',Aep,hlt'⟩:=ok.O9 hj hb;have e3:d'=d:=by rw [<-hd,hS'.class]
    subst e3;rw [ho]at e2;exact e (Ud hS'.cls h12 hlt' hlt e2)
  ·rintro⟨⟨j,b,hj,hb,hd,ho⟩,hne⟩;have hbi:j=i->b≠a:=fun e e2=>by
    subst e e2;have e3:d=c':=by rw [<-hd,hS.class]
    subst e3;exact hne ho
   refine⟨j,b,by rw [hsh];exact hj,?_,?_,by rw [hsh];exact ho⟩
   ·rw [htk];by_cases e:j=i
    ·subst e;rw [if_pos rfl,PS,hb];simp [hbi rfl]
    ·rw [if_neg e];exact hb
   ·rw [htk];by_cases e:j=i
    ·subst e;rw [if_pos rfl];rcases lW with h1| h1
     ·rw [h1];exact hd
     ·have:=PS b;rw [h1,Fp,hb]at this;simp [hbi rfl]at this
    ·rw [if_neg e];exact hd
end
def lX(sh:Sh)(ky tx:ByteArray):Bool:=
 (match CJ (st0 sh) 1 with
  | none=>false
  | some (off,s1)=>decide ((FX {s1 with ws:=CP s1.ws (off/8) (Dl ⟨1,0,false,tx⟩)} off).2=0))&&
 (decide ((FQ (st0 sh) ⟨1,0,false,tx⟩).2.2=0)&&decide ((FZ (FQ (st0 sh) ⟨1,0,false,tx⟩).1 ky.data.toList (FQ (st0 sh) ⟨1,0,false,tx⟩).2.1).2=0))
def one1(sh:Sh)(tx:ByteArray):St:=(FQ (st0 sh) ⟨1,0,false,tx⟩).1
def QJ(sh:Sh)(tx:ByteArray):UInt64:=(FQ (st0 sh) ⟨1,0,false,tx⟩).2.1
def Po(sh:Sh)(ky tx:ByteArray):St:=(FZ (one1 sh tx) ky.data.toList (QJ sh tx)).1
theorem yz{sh:Sh}{ky tx:ByteArray}(h:lX sh ky tx=true):∀off s1,CJ (st0 sh) 1=some (off,s1)->(FX {s1 with ws:=CP s1.ws (off/8) (Dl ⟨1,0,false,tx⟩)} off).2=0:=by
 intro off s1 hr;unfold lX at h;rw [hr]at h;rw [Bool.and_eq_true]at h;exact of_decide_eq_true h.1
theorem one_add{sh:Sh}{ky tx:ByteArray}(h:lX sh ky tx=true):FQ (st0 sh) ⟨1,0,false,tx⟩=(one1 sh tx,QJ sh tx,0):=by
 unfold lX at h;rw [Bool.and_eq_true,Bool.and_eq_true]at h;have h2:(FQ (st0 sh) ⟨1,0,false,tx⟩).2.2=0:=of_decide_eq_true h.2.1;unfold one1 QJ;rw [<-h2]
theorem qf{sh:Sh}{ky tx:ByteArray}(h:lX sh ky tx=true):FZ (one1 sh tx) ky.data.toList (QJ sh tx)=(Po sh ky tx,0):=by
 unfold lX at h;rw [Bool.and_eq_true,Bool.and_eq_true]at h;have h2:(FZ (one1 sh tx) ky.data.toList (QJ sh tx)).2=0:=of_decide_eq_true h.2.2;unfold Po;rw [<-h2]
theorem qg(sh:Sh)(ky:ByteArray)(hk:ky.size<=16):EZ (st0 sh) ky.data.toList=(0,7):=by
 have hk':¬16<ky.data.toList.length:=by simpa using hk
 have h9:(st0 sh).ws 9=0:=Gt sh 9 (by decide);unfold EZ;rw [if_neg hk'];unfold Fj;rw [h9,DD,if_pos rfl];rfl
end Go.Proofs.YtjcppneoncpdbaaGreatDoor
