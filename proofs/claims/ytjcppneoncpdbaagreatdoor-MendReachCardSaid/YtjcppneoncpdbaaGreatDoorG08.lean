import Derived.IntWalk
import Derived.Deep.RegionWith
import Derived.Test.YtjcppneoncpdbaaGreatDoorG03
import Derived.Test.YtjcppneoncpdbaaGreatDoorG04
import Derived.Test.YtjcppneoncpdbaaGreatDoorG06
import Derived.Test.YtjcppneoncpdbaaGreatDoorG07
set_option maxHeartbeats 32000000
set_option maxRecDepth 100000
open List renaming getElem?_eq_getElem->Ag,length_set->CX,getElem?_cons_zero->Ad,replicate->Bq,replicate_succ->TD,set_append_right->Rq,nil_append->Et,getElem?_map->BO,length_map->CZ
open UInt64 renaming toNat_lt->VX,ofNat->AA,toNat_ofNat'->Jh
open Go.Lib renaming hid->Aa
open Int renaming natCast_add->Adf,natCast_mul->Gf,tdiv_eq_ediv_of_nonneg->Zt
open Nat renaming mod_eq_of_lt->FM,le_refl->Ae
open Go.World renaming block_lt_of_cell?->Dq
namespace Go.Proofs.YtjcppneoncpdbaaGreatDoor
open Go.RowKit
theorem Amv{w:World}{g:Nat}{e:TypeId}{a b c d e' f i:Value}(h:BI w g e [a,b,c,d,e',f,i]):
 w.cell? ⟨g,0,none⟩=some a/\w.cell? ⟨g,1,none⟩=some b/\w.cell? ⟨g,2,none⟩=some c/\w.cell? ⟨g,3,none⟩=some d/\w.cell? ⟨g,4,none⟩=some e'/\w.cell? ⟨g,5,none⟩=some f/\w.cell? ⟨g,6,none⟩=some i:=
 ⟨h.cell 0,h.cell 1,h.cell 2,h.cell 3,h.cell 4,h.cell 5,h.cell 6⟩
theorem Ad5{P:Program}{f:FuncId}{args:Array Value}{W:World}{n:Nat}{v:Value}(h:Calls P f args (W.drewN n) fun e w'=>e= .returned v/\Dr (W.drewN n) w'):
 Calls P f args (W.drewN n) fun e w''=>e= .returned v/\∃m,w''=W.drewN m:=
 h.mono fun _ _⟨he,m,hm⟩=>⟨he,n+m,by rw [hm,World.drewN_drewN]⟩
theorem Amw{P:Program}{f:FuncId}{args:Array Value}{W:World}{n:Nat}{v:Value}(h:Calls P f args (W.drewN n) fun e w'=>e= .returned v/\W.drewN n=w'):
 Calls P f args (W.drewN n) fun e w''=>e= .returned v/\∃m,w''=W.drewN m:=
 h.mono fun _ _⟨he,hm⟩=>⟨he,n,hm.symm⟩
structure Iu(w:World)(d p L:Nat)(s:St)(tb hb n cT cH:Nat):Prop where
 y0:w.cell? ⟨p,0,none⟩=some (.pointer (some ⟨d,0,none⟩))
 y1:w.cell? ⟨p,1,none⟩=some (.int .i64 (s.sh.lines:Nat))
 y2:w.cell? ⟨p,2,none⟩=some (.int .i64 (s.sh.BM:Nat))
 y3:w.cell? ⟨p,3,none⟩=some (.int .i64 (s.sh.table:Nat))
 y4:w.cell? ⟨p,4,none⟩=some (.int .i64 (s.sh.data:Nat))
 y5:w.cell? ⟨p,5,none⟩=some (.slice (some ⟨tb,0,none⟩) n cT)
 y6:w.cell? ⟨p,6,none⟩=some (.slice (some ⟨hb,0,none⟩) n cH)
 tk:∀i,i<n->w.cell? ⟨tb,i,none⟩=some (.int .u64 (Hr s i:Nat))
 hd:∀i,i<n->w.cell? ⟨hb,i,none⟩=some (.int .u64 (hdN s i:Nat))
 ok:YZ L s.sh
 L1:L<=1024
 dm:n=s.sh.BM
 Ot:s.tk.length=n
theorem getD_at(xs:List UInt64)(i:Nat)(h:i<xs.length):xs.getD i 0=xs[i]:=by
 rw [List.getD_eq_getElem?_getD,Ag h];rfl
theorem Es.at{len:DX}{w:World}{d p L:Nat}{s:St}{tb hb n cT cH:Nat}{own:Nat->Prop}(h:Es len w d p L s tb hb n cT cH own):Iu w d p L s tb hb n cT cH:=by
 obtain⟨y0,y1,y2,y3,y4,y5,y6⟩:=Amv h.box;refine⟨y0,y1,y2,y3,y4,y5,y6,fun i hi=> ?_,fun i hi=> ?_,Io h.shape,h.L1,h.dm,h.Ot⟩
 ·have hl:i<s.tk.length:=by rw [h.Ot];exact hi
  rw [h.tk.cell i hl,Hr,getD_at _ _ hl]
 ·have hl:i<s.hd.length:=by rw [h.oU];exact hi
  rw [h.hd.cell i hl,hdN,getD_at _ _ hl]
theorem Px(s:St)(i:Nat):Hr s i<18446744073709551616:=VX _
theorem JY(s:St)(i:Nat):hdN s i<18446744073709551616:=VX _
theorem Nr(s:St)(i:Nat):Cm s i<18446744073709551616:=Nat.or_lt_two_pow (n:=64) (Px s i) (JY s i)
section
variable{w:World}{d p L:Nat}{s:St}{tb hb n cT cH:Nat}
theorem Gu(h:Iu w d p L s tb hb n cT cH):Calls Tryz.prog 54 #[.pointer (some ⟨p,0,none⟩)] w fun e w'=>e= .returned (.bool false)/\w=w':=by
 have y0:=h.y0;clear h;go_enter Tryz.func54,Tryz.ntmps54;go_wp2;go_ret;exact⟨rfl,rfl⟩
theorem oW(h:Iu w d p L s tb hb n cT cH)(i:Nat)(hi:i<n):Calls Tryz.prog 114 #[.pointer (some ⟨p,0,none⟩),.int .i64 (i:Int)] w fun e w'=>e= .returned (.int .i64 ((8*(s.sh.table/8+i):Nat):Int))/\w=w':=by
 have y3:=h.y3;have ht:=h.ok.table;have hs:=h.dm;have hf:=h.ok.fits;have hL:=h.L1;rw [ht]at y3;rw [show 8*(s.sh.table/8+i)=128+8*i by omega];clear h;go_enter Tryz.func114,Tryz.ntmps114;go_wp2;go_ret;exact⟨by go_num,rfl⟩
theorem KT(h:Iu w d p L s tb hb n cT cH)(i:Nat)(hi:i<n):Calls Tryz.prog 79 #[.pointer (some ⟨p,0,none⟩),.int .i64 (i:Int)] w fun e w'=>e= .returned (.int .u64 (Cm s i:Nat))/\Dr w w':=by
 have y5:=h.y5;have y6:=h.y6;have c1:=h.tk i hi;have c2:=h.hd i hi;have HE:=Aa (u64_or_nat (Hr s i) (hdN s i) (Px s i) (JY s i));clear h;go_enter Tryz.func79,Tryz.ntmps79
 go_wp2_with fail
 go_quiet(fail)
 go_wp2_with fail
 rw [HE.out];go_ret;exact⟨rfl,_,rfl⟩
theorem SI(h:Iu w d p L s tb hb n cT cH)(i c a:Nat)(hi:i<n)(hc:c<4)(ha:a<=16):Calls Tryz.prog 56 #[.pointer (some ⟨p,0,none⟩),.int .i64 (i:Int),.int .i64 (c:Int),.int .i64 (a:Int)] w fun e w'=>e= .returned (.int .i64 (CS s.sh i c a:Nat))/\Dr w w':=by
 have y4:=h.y4;have hs:=h.dm;have hf:=h.ok.fits;have hL:=h.L1;have hl:=ZB c;have hm:64*AZ c*a<=256*16:=Nat.mul_le_mul (by omega) ha;have HP:Hid (((CS s.sh i c a:Nat):Int)=(s.sh.data:Int)+1024*(i:Int)+64*((AZ c:Nat):Int)*(a:Int)):=Aa (by unfold CS;rw [Adf,Adf,Gf,Gf,Gf];rfl);have e0:(64:Int)*((AZ c:Nat):Int)*(a:Int)=((64*AZ c*a:Nat):Int):=by rw [Gf,Gf];rfl
 have HL:=Aa (Oh c · (by omega));generalize AZ c=lc at*;have s1:IntKind.i64.wrap (1024*(i:Int))=1024*(i:Int):=IntWalk.i64_in _ (by omega);have s2:IntKind.i64.wrap ((s.sh.data:Int)+1024*(i:Int))=(s.sh.data:Int)+1024*(i:Int):=IntWalk.i64_in _ (by omega);have s3:IntKind.i64.wrap (64*(lc:Int))=64*(lc:Int):=IntWalk.i64_in _ (by omega);have s4:IntKind.i64.wrap (64*(lc:Int)*(a:Int))=64*(lc:Int)*(a:Int):=IntWalk.i64_in _ (by rw [e0];omega);have s5:IntKind.i64.wrap ((s.sh.data:Int)+1024*(i:Int)+64*(lc:Int)*(a:Int))=(s.sh.data:Int)+1024*(i:Int)+64*(lc:Int)*(a:Int):=IntWalk.i64_in _ (by rw [e0];omega);clear h e0;go_enter Tryz.func56,Tryz.ntmps56
 go_wp2_with fail
 go_quiet((go_at_call 105;exact Amw (HL.out _)))
 go_wp2_with fail
 rw [HP.out];go_ret;exact⟨rfl,_,rfl⟩
theorem Iu.dr{w':World}(h:Iu w d p L s tb hb n cT cH)(k:Dr w w'):Iu w' d p L s tb hb n cT cH:=by
 obtain⟨q,rfl⟩:=k;exact⟨h.y0,h.y1,h.y2,h.y3,h.y4,h.y5,h.y6,h.tk,h.hd,h.ok,h.L1,h.dm,h.Ot⟩
def Ip(s:St)(off:Int):Value:=match IB s off with
 | some (i,a)=> .tuple #[.int .i64 (i:Int),.int .i64 (a:Int),.bool true]
 | none=> .tuple #[.int .i64 0,.int .i64 0,.bool false]
theorem Ir(h:Iu w d p L s tb hb n cT cH)(off:Int)(ho: -9223372036854775808<=off/\off<=9223372036854775807):Calls Tryz.prog 81 #[.pointer (some ⟨p,0,none⟩),.int .i64 off] w fun e w'=>e= .returned (Ip s off)/\Dr w w':=by
 have y4:=h.y4;have y5:=h.y5;have hs:=h.dm;have hn:=h.Ot;have hf:=h.ok.fits;have hL:=h.L1;have hd:=Dr.refl w;have H:=Aa h;by_cases h1:off<(s.sh.data:Int)
 ·have t1:decide (off<(s.sh.data:Int))=true:=decide_eq_true h1;have HV:Hid (Ip s off= .tuple #[.int .i64 0,.int .i64 0,.bool false]):=Aa (by rw [Ip,IB,if_pos (.inl h1)]);clear h h1 hs hn hf hL;go_enter Tryz.func81,Tryz.ntmps81
  go_wp2_with fail
  go_quiet(fail)
  go_wp2_with fail
  go_ret3
  exact⟨by rw [HV.out];rfl,_,rfl⟩
 ·have t1:decide (off<(s.sh.data:Int))=false:=decide_eq_false h1;have s1:IntKind.i64.wrap (1024*(n:Int))=1024*(n:Int):=IntWalk.i64_in _ (by omega);have s2:IntKind.i64.wrap ((s.sh.data:Int)+1024*(n:Int))=(s.sh.data:Int)+1024*(n:Int):=IntWalk.i64_in _ (by omega);by_cases h2:(s.sh.data:Int)+1024*(n:Int)<=off
  ·have t2:decide ((s.sh.data:Int)+1024*(n:Int)<=off)=true:=decide_eq_true h2;have HV:Hid (Ip s off= .tuple #[.int .i64 0,.int .i64 0,.bool false]):=Aa (by rw [Ip,IB,if_pos (.inr (by rw [hn];omega))]);clear h h1 h2 hs hn hf hL;go_enter Tryz.func81,Tryz.ntmps81
   go_wp2_with fail
   go_quiet(fail)
   go_wp2_with fail
   go_ret3
   exact⟨by rw [HV.out];rfl,_,rfl⟩
  ·have t2:decide ((s.sh.data:Int)+1024*(n:Int)<=off)=false:=decide_eq_false h2;have HF:Hid (IB s off=if AZ (Bd (Cm s ((off.toNat-s.sh.data)/1024)))=0\/(off.toNat-s.sh.data)%1024%(64*AZ (Bd (Cm s ((off.toNat-s.sh.data)/1024))))≠0 then none else
    some ((off.toNat-s.sh.data)/1024,(off.toNat-s.sh.data)%1024/(64*AZ (Bd (Cm s ((off.toNat-s.sh.data)/1024)))))):=Aa (by rw [IB,if_neg (by rw [hn];omega)])
   obtain⟨o,ho2,e9⟩:∃o:Nat,off.toNat-s.sh.data=o/\off=(s.sh.data:Int)+(o:Int):=⟨off.toNat-s.sh.data,rfl,by omega⟩;rw [ho2]at HF;have ho3:o<1024*n:=by omega
   have e1:IntKind.i64.wrap (off- (s.sh.data:Int))=(o:Int):=by rw [IntWalk.i64_in _ (by omega)];omega
   have e2:(o:Int).tdiv 1024=((o/1024:Nat):Int):=by rw [Zt (by omega)];omega
   have e3:(o:Int).tmod 1024=((o%1024:Nat):Int):=by rw [Int.tmod_eq_emod_of_nonneg (by omega)];omega
   have hi:o/1024<n:=by omega
   have hr:o%1024<1024:=Nat.mod_lt _ (by decide);generalize o/1024=i at*;generalize o%1024=r at*;have e4:IntKind.i64.wrap (i:Int)=(i:Int):=IntWalk.i64_in _ (by omega);have e5:IntKind.i64.wrap (r:Int)=(r:Int):=IntWalk.i64_in _ (by omega);have hcl:=MQ (Cm s i);have hll:=ZB (Bd (Cm s i));clear h h1 h2 ho2 e9 hs hn hf hL;by_cases c1:AZ (Bd (Cm s i))=0
   ·have HV:Hid (Ip s off= .tuple #[.int .i64 0,.int .i64 0,.bool false]):=Aa (by rw [Ip,HF.out,if_pos (.inl c1)]);have HL:=Aa (Oh (Bd (Cm s i)) · (by omega));rw [c1]at HL;clear c1 hll HF;go_enter Tryz.func81,Tryz.ntmps81
    go_wp2_with fail
    go_quiet(fail)
    go_wp2_with fail
    go_quiet(fail)
    go_wp2_with fail
    refine(KT (H.out.dr (Dr.one w _)) i hi).mono ?_;rintro e w1⟨rfl,hd1⟩;replace hd1:=(Dr.one w _).trans hd1
    go_wp2_with fail
    refine(GK (Cm s i) _ (Nr s i)).mono ?_;rintro e w2⟨rfl,hd2⟩;replace hd2:=hd1.trans hd2
    go_wp2_with fail
    refine(HL.out _).mono ?_;rintro e w3⟨rfl,rfl⟩
    go_wp2_with fail
    go_ret3
    exact⟨by rw [HV.out];rfl,hd2⟩
   ·have HL:=Aa (Oh (Bd (Cm s i)) · (by omega));have q1:((64:Int)*((AZ (Bd (Cm s i)):Nat):Int)==0)=false:=by rw [beq_eq_false_iff_ne];omega
    have hm:(r:Int)%(64*((AZ (Bd (Cm s i)):Nat):Int))=((r%(64*AZ (Bd (Cm s i))):Nat):Int):=by rw [Int.natCast_emod,Gf];rfl
    by_cases c2:r%(64*AZ (Bd (Cm s i)))=0
    ·have HV:Hid (Ip s off= .tuple #[.int .i64 (i:Int),.int .i64 ((r/(64*AZ (Bd (Cm s i))):Nat):Int),.bool true]):=Aa (by rw [Ip,HF.out,if_neg (by rintro(h| h);exact c1 h;exact h c2)]);have q2:((r:Int)%(64*((AZ (Bd (Cm s i)):Nat):Int))!=0)=false:=by rw [hm,c2];rfl
     have q3:(r:Int).tdiv (64*((AZ (Bd (Cm s i)):Nat):Int))=((r/(64*AZ (Bd (Cm s i))):Nat):Int):=by rw [Zt (by omega),Int.natCast_ediv,Gf];rfl
     have hq:r/(64*AZ (Bd (Cm s i)))<=r:=Nat.div_le_self _ _;generalize r/(64*AZ (Bd (Cm s i)))=qt at*;have q4:IntKind.i64.wrap (qt:Int)=(qt:Int):=IntWalk.i64_in _ (by omega);generalize AZ (Bd (Cm s i))=lc at*;clear hm HF c2;go_enter Tryz.func81,Tryz.ntmps81
     go_wp2_with fail
     go_quiet(fail)
     go_wp2_with fail
     go_quiet(fail)
     go_wp2_with fail
     refine(KT (H.out.dr (Dr.one w _)) i hi).mono ?_;rintro e w1⟨rfl,hd1⟩;replace hd1:=(Dr.one w _).trans hd1
     go_wp2_with fail
     refine(GK (Cm s i) _ (Nr s i)).mono ?_;rintro e w2⟨rfl,hd2⟩;replace hd2:=hd1.trans hd2
     go_wp2_with fail
     refine(HL.out _).mono ?_;rintro e w3⟨rfl,rfl⟩
     go_wp2_with fail
     go_quiet(fail)
     go_wp2_with fail
     go_ret3
     exact⟨by rw [HV.out];rfl,hd2.trans (Dr.one _ _)⟩
    ·have HV:Hid (Ip s off= .tuple #[.int .i64 0,.int .i64 0,.bool false]):=Aa (by rw [Ip,HF.out,if_pos (.inr c2)]);have q2:((r:Int)%(64*((AZ (Bd (Cm s i)):Nat):Int))!=0)=true:=by rw [hm,bne_iff_ne];omega
     generalize AZ (Bd (Cm s i))=lc at*;clear hm HF c2;go_enter Tryz.func81,Tryz.ntmps81
     go_wp2_with fail
     go_quiet(fail)
     go_wp2_with fail
     go_quiet(fail)
     go_wp2_with fail
     refine(KT (H.out.dr (Dr.one w _)) i hi).mono ?_;rintro e w1⟨rfl,hd1⟩;replace hd1:=(Dr.one w _).trans hd1
     go_wp2_with fail
     refine(GK (Cm s i) _ (Nr s i)).mono ?_;rintro e w2⟨rfl,hd2⟩;replace hd2:=hd1.trans hd2
     go_wp2_with fail
     refine(HL.out _).mono ?_;rintro e w3⟨rfl,rfl⟩
     go_wp2_with fail
     go_ret3
     exact⟨by rw [HV.out];rfl,hd2⟩
end
theorem Ns{s:St}{off:Int}{i a:Nat}(h:IB s off=some (i,a)):i<s.tk.length/\a<16/\off=((CS s.sh i (Bd (Cm s i)) a:Nat):Int)/\1<=AZ (Bd (Cm s i))/\AZ (Bd (Cm s i))*a+AZ (Bd (Cm s i))<=16:=by
 unfold IB at h;split at h
 ·cases h
 ·rename_i h1;obtain⟨o,ho⟩:∃o,off.toNat-s.sh.data=o:=⟨_,rfl⟩;rw [ho]at h;have hoff:off=((s.sh.data+o:Nat):Int):=by omega
  have ho2:o<1024*s.tk.length:=by omega
  split at h
  ·cases h
  ·rename_i h2;injection h with h
   injection h with hi ha
   rw [hi]at h2 ha;have hl1:AZ (Bd (Cm s i))≠0:=fun e=>h2 (.inl e)
   have hm:o%1024%(64*AZ (Bd (Cm s i)))=0:=Classical.byContradiction fun e=>h2 (.inr e)
   have hlc:AZ (Bd (Cm s i))=1\/AZ (Bd (Cm s i))=4:=by
    unfold AZ at hl1⊢;split at hl1<;>simp_all
   unfold CS;rcases hlc with e| e
   ·rw [e]at hm ha⊢;refine⟨by omega,by omega,by omega,by omega,by omega⟩
   ·rw [e]at hm ha⊢;refine⟨by omega,by omega,by omega,by omega,by omega⟩
section
variable{w:World}{d p L:Nat}{s:St}{tb hb n cT cH:Nat}{own:Nat->Prop}
theorem XI(h:Iu w d p L s tb hb n cT cH)(off:Int)(ho: -9223372036854775808<=off/\off<=9223372036854775807):Calls Tryz.prog 103 #[.pointer (some ⟨p,0,none⟩),.int .i64 off] w fun e w'=>e= .returned (.int .i64 (Dz s off:Nat))/\Dr w w':=by
 have H:=Aa h;cases hf:IB s off with
 | none=>
   have HV:Hid (Dz s off=0):=Aa (by rw [Dz,hf]);have HF:Hid (Ip s off= .tuple #[.int .i64 0,.int .i64 0,.bool false]):=Aa (by rw [Ip,hf]);clear h hf;go_enter Tryz.func103,Tryz.ntmps103
   go_wp2_with fail
   refine(Gu H.out).mono ?_;rintro e w'⟨rfl,rfl⟩
   go_wp2_with fail
   refine(Ir H.out off ho).mono ?_;rintro e w1⟨rfl,hd⟩;rw [HF.out]
   go_wp2_with fail
   go_ret;exact⟨by rw [HV.out];rfl,hd⟩
 | some ia=>
   obtain⟨i,a⟩:=ia;obtain⟨hi,ha, -⟩:=Ns hf;rw [h.Ot]at hi;have HF:Hid (Ip s off= .tuple #[.int .i64 (i:Int),.int .i64 (a:Int),.bool true]):=Aa (by rw [Ip,hf]);have HH:=Aa (Qw (Hr s i) a · (Px s i) (by omega));have HC:=Aa (GK (Hr s i) · (Px s i));have hv:Dz s off=if EF (Hr s i) a then Bd (Hr s i)else 0:=by rw [Dz,hf]
   cases hh:EF (Hr s i) a
   ·rw [hh]at hv HH;have HV:=Aa hv;clear h hf hv hh;go_enter Tryz.func103,Tryz.ntmps103
    go_wp2_with fail
    refine(Gu H.out).mono ?_;rintro e w'⟨rfl,rfl⟩
    go_wp2_with fail
    refine(Ir H.out off ho).mono ?_;rintro e w1⟨rfl,hd⟩;rw [HF.out];have h1:=H.out.dr hd;have y5:=h1.y5;have c1:=h1.tk i hi;clear h1
    go_wp2_with fail
    refine(HH.out _).mono ?_;rintro e w2⟨rfl,hd2⟩;clear y5 c1
    go_wp2_with fail
    go_ret;exact⟨by rw [HV.out];rfl,hd.trans hd2⟩
   ·rw [hh]at hv HH;have HV:=Aa hv;clear h hf hv hh;go_enter Tryz.func103,Tryz.ntmps103
    go_wp2_with fail
    refine(Gu H.out).mono ?_;rintro e w'⟨rfl,rfl⟩
    go_wp2_with fail
    refine(Ir H.out off ho).mono ?_;rintro e w1⟨rfl,hd⟩;rw [HF.out];have h1:=H.out.dr hd;have y5:=h1.y5;have c1:=h1.tk i hi;clear h1
    go_wp2_with fail
    refine(HH.out _).mono ?_;rintro e w2⟨rfl,hd2⟩;clear y5 c1;replace hd:=hd.trans hd2;have h1:=H.out.dr hd;have y5:=h1.y5;have c1:=h1.tk i hi;clear h1
    go_wp2_with fail
    refine(HC.out _).mono ?_;rintro e w3⟨rfl,hd3⟩;clear y5 c1
    go_wp2_with fail
    go_ret;exact⟨by rw [HV.out];rfl,hd.trans hd3⟩
theorem Tabs.set{w:World}(h:Tabs w){b:Nat}(h1:b≠0)(h2:b≠1)(k:Nat)(u:Value):Tabs (w.setCell ⟨b,k,none⟩ u):=
 h.keep (Below.heap_setCell w ⟨b,k,none⟩ u _ (fun e=>h1 e.symm)) (Below.heap_setCell w ⟨b,k,none⟩ u _ (fun e=>h2 e.symm))
theorem Es.Aj5{len:DX}(h:Es len w d p L s tb hb n cT cH own)(i:Nat)(x:UInt64):Es len (w.setCell ⟨tb,i,none⟩ (wv x)) d p L {s with tk:=s.tk.set i x} tb hb n cT cH own:=by
 have keep:∀b,b≠tb->(w.setCell ⟨tb,i,none⟩ (wv x)).heap[b]? =w.heap[b]? :=fun b hb'=>Below.heap_setCell w ⟨tb,i,none⟩ _ b hb'
 exact⟨h.dev.touch ((Touch.refl (fun b=>b=tb) w).setCell (p:=⟨tb,i,none⟩) (.inl rfl) _) (fun b hb' e=>h.dt (e▸hb')),h.L0,h.L1,h.shape,(keep p h.pt).trans h.box,h.tk.set i x,h.hd.keep (keep hb (fun e=>h.th e.symm)),
  by rw [CX];exact h.Ot,h.oU,h.dm,h.cT,h.cH,h.dp,h.dt,h.dh,h.pt,h.ph,h.th,h.tabs.set (fun e=>h.g1 (.inr (.inr (.inl e.symm)))) (fun e=>h.g2 (.inr (.inr (.inl e.symm)))) _ _,h.g1,h.g2⟩
theorem Es.Aar{len:DX}(h:Es len w d p L s tb hb n cT cH own)(i:Nat)(x:UInt64):Es len (w.setCell ⟨hb,i,none⟩ (wv x)) d p L {s with hd:=s.hd.set i x} tb hb n cT cH own:=by
 have keep:∀b,b≠hb->(w.setCell ⟨hb,i,none⟩ (wv x)).heap[b]? =w.heap[b]? :=fun b hb'=>Below.heap_setCell w ⟨hb,i,none⟩ _ b hb'
 exact⟨h.dev.touch ((Touch.refl (fun b=>b=hb) w).setCell (p:=⟨hb,i,none⟩) (.inl rfl) _) (fun b hb' e=>h.dh (e▸hb')),h.L0,h.L1,h.shape,(keep p h.ph).trans h.box,h.tk.keep (keep tb h.th),h.hd.set i x,
  h.Ot,by rw [CX];exact h.oU,h.dm,h.cT,h.cH,h.dp,h.dt,h.dh,h.pt,h.ph,h.th,h.tabs.set (fun e=>h.g1 (.inr (.inr (.inr e.symm)))) (fun e=>h.g2 (.inr (.inr (.inr e.symm)))) _ _,h.g1,h.g2⟩
theorem Dr.drew(w:World):Dr w w.drew:=⟨1,rfl⟩
theorem EL.dr{len:DX}{F:Nat->Prop}{w':World}(h:EL len w d p L s F)(k:Dr w w'):EL len w' d p L s F:=h.below (k.below _)
theorem AB.dr{F F':Nat->Prop}{w w' w'':World}(h:AB F F' w w')(k:Dr w' w''):AB F F' w w'':=h.below (k.below _)
theorem dD(x:Nat)(hx:x<18446744073709551616):wv (AA x)= .int .u64 (x:Int):=by
 simp only [wv,Jh];rw [FM hx]
theorem jf{F:Nat->Prop}(h:Sys w d p L s F)(i x:Nat)(hi:i<s.tk.length)(hx:x<18446744073709551616):
 Calls Tryz.prog 83 #[.pointer (some ⟨p,0,none⟩),.int .i64 (i:Int),.int .u64 (x:Int)] w fun e w'=>e= .returned (.int .i64 0)/\∃F',Sys w' d p L (bJ s i (AA x)) F'/\AB F F' w w':=by
 have H:=Aa h;obtain⟨tb,hb,n,cT,cH,own,hr,hF⟩:=h;have h1:=hr.at;have hin:i<n:=by rw [<-h1.Ot];exact hi
 have y0:=h1.y0;have HE:=Aa (fun W(hW:Dr w W)=>oW (h1.dr hW) i hin);have hent:s.sh.table/8+i<8*L:=by
  have:=h1.ok.table;have:=h1.ok.fits;have:=h1.ok.NR;have:=h1.dm;omega
 have HP:=fun W(hW:Dr w W)=>WJ (H.out.dr hW) (s.sh.table/8+i) (AA x) hent
 rw [show((AA x).toNat:Int)=(x:Int)by rw [Jh,FM hx]]at HP;have HP:=Aa HP;clear h1 hr hF hent;go_enter Tryz.func83,Tryz.ntmps83
 go_wp2_with fail
 go_region_with(first
  | (go_at_call 114;go_loud(refine(HE.out _ (Dr.drew _)).mono ?_;rintro e w'⟨rfl,rfl⟩))
  | (go_at_call 50;go_loud(refine(HP.out _ (Dr.drew _)).mono ?_;rintro e w1⟨rfl,F1,hs1,hm1⟩)))
 all_goals(replace hm1:=(AB.of_below ((Dr.drew w).below _)).trans hm1)
 all_goals(clear y0 HE HP)
 all_goals(obtain⟨tb1,hb1,n1,cT1,cH1,Aas,hr1,hF1⟩:=hs1)
 all_goals(have h1:=hr1.at)
 all_goals(have hin1:i<n1:=by rw [<-h1.Ot];exact hi)
 all_goals(have y5:=h1.y5)
 all_goals(have c1:=h1.tk i hin1)
 all_goals(have f1:=hr1.tk.frozen i)
 all_goals(have HR:=Aa (hr1.Aj5 i (AA x)))
 all_goals(rw [dD x hx]at HR)
 all_goals(have HM:=Aa (hm1.set (p:=⟨tb1,i,none⟩) (hm1.own tb1 ((hF1 tb1).2 (.inr (.inr (.inl rfl))))) (.int .u64 (x:Int))))
 all_goals(clear h1 hr1 hm1)
 all_goals(go_wp2_with fail)
 all_goals(go_ret)
 all_goals(exact⟨rfl,F1,⟨tb1,hb1,n1,cT1,cH1,Aas,HR.out,hF1⟩,HM.out⟩)
end
section
variable{w:World}{d p L:Nat}{s:St}{tb hb n cT cH:Nat}{own:Nat->Prop}{F:Nat->Prop}
theorem Es.dr{len:DX}{w':World}(h:Es len w d p L s tb hb n cT cH own)(k:Dr w w'):Es len w' d p L s tb hb n cT cH own:=by
 obtain⟨q,rfl⟩:=k;exact⟨h.dev.below ((Dr.one w q).below _),h.L0,h.L1,h.shape,h.box,h.tk,h.hd,h.Ot,h.oU,h.dm,h.cT,h.cH,h.dp,h.dt,h.dh,h.pt,h.ph,h.th,h.tabs.below ((Dr.one w q).below _),h.g1,h.g2⟩
theorem Es.held{m:DX}(h:Es m w d p L s tb hb n cT cH own)(hF:∀b,F b<->(own b\/b=p\/b=tb\/b=hb))(i x:Nat)(hx:x<18446744073709551616){W:World}(k:Dr w W):
 EL m (W.setCell ⟨hb,i,none⟩ (.int .u64 (x:Int))) d p L {s with hd:=s.hd.set i (AA x)} F/\AB F F w (W.setCell ⟨hb,i,none⟩ (.int .u64 (x:Int))):=by
 have h1:=(h.dr k).Aar i (AA x);rw [dD x hx]at h1;exact⟨⟨tb,hb,n,cT,cH,own,h1,hF⟩,((AB.refl F w).dr k).set (p:=⟨hb,i,none⟩) (.inl ((hF hb).2 (.inr (.inr (.inr rfl))))) _⟩
theorem ZL(h:Sys w d p L s F)(off:Int)(ho: -9223372036854775808<=off/\off<=9223372036854775807):
 Calls Tryz.prog 35 #[.pointer (some ⟨p,0,none⟩),.int .i64 off] w fun e w'=>e= .returned (.int .i64 (Fh s off).2)/\∃F',Sys w' d p L (Fh s off).1 F'/\AB F F' w w':=by
 have ht:=h;obtain⟨tb,hb,n,cT,cH,own,hr,hF⟩:=h;have HA:=Aa hr.at;have hn:=hr.Ot;cases hf:IB s off with
 | none=>
   have HV:Hid (Fh s off=(s,7)):=Aa (by rw [Fh,hf]);have HF:Hid (Ip s off= .tuple #[.int .i64 0,.int .i64 0,.bool false]):=Aa (by rw [Ip,hf]);have HS:=Aa ht;clear ht hf hn hr hF;go_enter Tryz.func35,Tryz.ntmps35
   go_wp2_with fail
   refine(Gu HA.out).mono ?_;rintro e w'⟨rfl,rfl⟩
   go_wp2_with fail
   refine(Ir HA.out off ho).mono ?_;rintro e w1⟨rfl,hd⟩;rw [HF.out]
   go_wp2_with fail
   go_ret;rw [HV.out];exact⟨rfl,F,HS.out.dr hd,(AB.refl _ _).dr hd⟩
 | some ia=>
   obtain⟨i,a⟩:=ia;obtain⟨hi,hx, -⟩:=Ns hf;have hil:=hi;rw [hn]at hi;have HF:Hid (Ip s off= .tuple #[.int .i64 (i:Int),.int .i64 (a:Int),.bool true]):=Aa (by rw [Ip,hf]);have HS:=Aa ht;have HR:=Aa hr;have HFF:=Aa hF;have HH:=Aa (Qw (hdN s i) a · (JY s i) (by omega));cases hh:EF (hdN s i) a
   ·rw [hh]at HH;have HV:Hid (Fh s off=(s,7)):=Aa (by rw [Fh,hf];simp [hh]);clear ht hf hn hr hF hh;go_enter Tryz.func35,Tryz.ntmps35
    go_wp2_with fail
    refine(Gu HA.out).mono ?_;rintro e w'⟨rfl,rfl⟩
    go_wp2_with fail
    refine(Ir HA.out off ho).mono ?_;rintro e w1⟨rfl,hd⟩;rw [HF.out];have ha:=HA.out.dr hd;have y5:=ha.y5;have y6:=ha.y6;have c1:=ha.tk i hi;have c2:=ha.hd i hi;clear ha
    go_wp2_with fail
    refine(HH.out _).mono ?_;rintro e w'⟨rfl,hd'⟩;replace hd:=hd.trans hd';clear y5 y6 c1 c2 hd'
    go_wp2_with fail
    go_ret;rw [HV.out];exact⟨rfl,F,HS.out.dr hd,(AB.refl _ _).dr hd⟩
   ·rw [hh]at HH;obtain⟨x,hx1⟩:∃x,(Gh (Hr s i) (Bd (hdN s i)) a).1=x:=⟨_,rfl⟩;obtain⟨y,hy1⟩:∃y,(Eu (hdN s i) a).1=y:=⟨_,rfl⟩;have hxl:x<18446744073709551616:=by rw [<-hx1];exact XE _ _ _ (Px s i) (by omega)
    have hyl:y<18446744073709551616:=by rw [<-hy1];exact Uh _ _ (JY s i) (by omega)
    have HV:Hid (Fh s off=({bJ s i (AA x)with hd:=s.hd.set i (AA y)},0)):=Aa (by rw [Fh,hf];simp [hh,hx1,hy1]);have HC:=Aa (GK (hdN s i) · (JY s i));have HT:=Aa (take_any (Hr s i) (Bd (hdN s i)) a · (Px s i) (MQ _) (by omega));have HD:=Aa (Ui (hdN s i) a · (JY s i) (by omega));rw [hx1]at HT;rw [hy1]at HD;have HP:=Aa (fun W(k:Dr w W)=>jf (ht.dr k) i x hil hxl);generalize(Gh (Hr s i) (Bd (hdN s i)) a).2=bx at*;generalize(Eu (hdN s i) a).2=by_ at*;clear ht hf hn hr hF hh hx1 hy1;go_enter Tryz.func35,Tryz.ntmps35
    go_wp2_with fail
    refine(Gu HA.out).mono ?_;rintro e w'⟨rfl,rfl⟩
    go_wp2_with fail
    refine(Ir HA.out off ho).mono ?_;rintro e w1⟨rfl,hd⟩;rw [HF.out];have ha:=HA.out.dr hd;have y5:=ha.y5;have y6:=ha.y6;have c1:=ha.tk i hi;have c2:=ha.hd i hi;clear ha
    go_wp2_with fail
    refine(HH.out _).mono ?_;rintro e w'⟨rfl,hd'⟩;replace hd:=hd.trans hd';clear y5 y6 c1 c2 hd';have ha:=HA.out.dr hd;have y5:=ha.y5;have y6:=ha.y6;have c1:=ha.tk i hi;have c2:=ha.hd i hi;clear ha
    go_wp2_with fail
    go_quiet(first
     | (go_at_call 57;exact Ad5 (HC.out _))
     | (go_at_call 80;exact Ad5 (HT.out _)))
    clear y5 y6 c1 c2;replace hd:=hd.trans (Dr.one _ nq)
    go_wp2_with fail
    refine(HP.out _ hd).mono ?_;rintro e w2⟨rfl,F2,hs2,hm2⟩;have hm3:=((AB.refl F w).dr hd).trans hm2;obtain⟨tb2,hb2,n2,cT2,cH2,Aat,hr2,hF2⟩:=hs2;have ha2:=hr2.at;have hi2:i<n2:=by rw [<-ha2.Ot,bJ];simpa using hil
    have z6:=ha2.y6;have z2:=ha2.hd i hi2;rw [show hdN (bJ s i (AA x)) i=hdN s i from rfl]at z2;have z3:=hr2.hd.frozen i;have HR2:=Aa (fun W(k:Dr w2 W)=>hr2.held hF2 i y hyl k);clear hm2 ha2 hr2 HP HR HS HA HC HT
    go_wp2_with fail
    go_region_with(go_at_call 84;go_loud(refine(HD.out _).mono ?_;rintro e w3⟨rfl,q,rfl⟩))
    all_goals(clear z6 z2 z3 HD)
    all_goals(go_wp2_with fail)
    all_goals(go_ret)
    all_goals(rw [HV.out])
    all_goals(first
     | exact⟨rfl,F2,(HR2.out _ (Dr.one w2 _)).1,hm3.trans (HR2.out _ (Dr.one w2 _)).2⟩)
theorem ZM{m:DX}(h:EL m w d p L s F)(off:Int)(ho: -9223372036854775808<=off/\off<=9223372036854775807){i a:Nat}(hf:IB s off=some (i,a))(hb1:(Eu (hdN s i) a).2=true):
 Calls Tryz.prog 94 #[.pointer (some ⟨p,0,none⟩),.int .i64 off] w fun e w'=>e= .returned (.int .i64 0)/\EL m w' d p L {s with hd:=s.hd.set i (AA (Eu (hdN s i) a).1)} F/\AB F F w w':=by
 obtain⟨tb,hb,n,cT,cH,own,hr,hF⟩:=h;have HA:=Aa hr.at;have hn:=hr.Ot;obtain⟨hi,hx, -⟩:=Ns hf;rw [hn]at hi;have HF:Hid (Ip s off= .tuple #[.int .i64 (i:Int),.int .i64 (a:Int),.bool true]):=Aa (by rw [Ip,hf]);have HR:=Aa hr;have HFF:=Aa hF;obtain⟨y,hy1⟩:∃y,(Eu (hdN s i) a).1=y:=⟨_,rfl⟩;have hyl:y<18446744073709551616:=by rw [<-hy1];exact Uh _ _ (JY s i) (by omega)
 have HD:=Aa (Ui (hdN s i) a · (JY s i) (by omega));rw [hy1,hb1]at HD;rw [hy1];clear hf hn hr hF hb1 hy1;go_enter Tryz.func94,Tryz.ntmps94
 go_wp2_with fail
 refine(Gu HA.out).mono ?_;rintro e w'⟨rfl,rfl⟩
 go_wp2_with fail
 refine(Ir HA.out off ho).mono ?_;rintro e w1⟨rfl,hd⟩;rw [HF.out];have ha:=HA.out.dr hd;have y5:=ha.y5;have y6:=ha.y6;have c1:=ha.tk i hi;have c2:=ha.hd i hi;clear ha
 go_wp2_with fail
 refine(HD.out _).mono ?_;rintro e w'⟨rfl,hd'⟩;replace hd:=hd.trans hd';clear y5 y6 c1 c2 hd';have ha:=HA.out.dr hd;have y6:=ha.y6;have c2:=ha.hd i hi;have f2:=(HR.out.dr hd).hd.frozen i;have HR2:=Aa (HR.out.held HFF.out i y hyl hd);clear ha
 go_wp2_with fail
 go_ret;exact⟨rfl,HR2.out.1,HR2.out.2⟩
theorem MR(h:Sys w d p L s F)(off:Int)(ho: -9223372036854775808<=off/\off<=9223372036854775807):
 Calls Tryz.prog 94 #[.pointer (some ⟨p,0,none⟩),.int .i64 off] w fun e w'=>e= .returned (.int .i64 (Fj s off).2)/\∃F',Sys w' d p L (Fj s off).1 F'/\AB F F' w w':=by
 have ht:=h;obtain⟨tb,hb,n,cT,cH,own,hr,hF⟩:=h;have HA:=Aa hr.at;have hn:=hr.Ot;cases hf:IB s off with
 | none=>
   have HV:Hid (Fj s off=(s,7)):=Aa (by rw [Fj,hf]);have HF:Hid (Ip s off= .tuple #[.int .i64 0,.int .i64 0,.bool false]):=Aa (by rw [Ip,hf]);have HS:=Aa ht;clear ht hf hn hr hF;go_enter Tryz.func94,Tryz.ntmps94
   go_wp2_with fail
   refine(Gu HA.out).mono ?_;rintro e w'⟨rfl,rfl⟩
   go_wp2_with fail
   refine(Ir HA.out off ho).mono ?_;rintro e w1⟨rfl,hd⟩;rw [HF.out]
   go_wp2_with fail
   go_ret;rw [HV.out];exact⟨rfl,F,HS.out.dr hd,(AB.refl _ _).dr hd⟩
 | some ia=>
   obtain⟨i,a⟩:=ia;obtain⟨hi,hx, -⟩:=Ns hf;have hil:=hi;rw [hn]at hi;have HF:Hid (Ip s off= .tuple #[.int .i64 (i:Int),.int .i64 (a:Int),.bool true]):=Aa (by rw [Ip,hf]);have HS:=Aa ht;have HR:=Aa hr;have HFF:=Aa hF;obtain⟨y,hy1⟩:∃y,(Eu (hdN s i) a).1=y:=⟨_,rfl⟩;have hyl:y<18446744073709551616:=by rw [<-hy1];exact Uh _ _ (JY s i) (by omega)
   have HD:=Aa (Ui (hdN s i) a · (JY s i) (by omega));rw [hy1]at HD;cases hb1:(Eu (hdN s i) a).2
   ·rw [hb1]at HD;obtain⟨x,hx1⟩:∃x,(Eu (Hr s i) a).1=x:=⟨_,rfl⟩;have hxl:x<18446744073709551616:=by rw [<-hx1];exact Uh _ _ (Px s i) (by omega)
    have HE:=Aa (Ui (Hr s i) a · (Px s i) (by omega));rw [hx1]at HE;cases hb2:(Eu (Hr s i) a).2
    ·rw [hb2]at HE;have HV:Hid (Fj s off=(s,7)):=Aa (by rw [Fj,hf];simp [hb1,hb2]);clear ht hf hn hr hF hb1 hb2 hx1 hy1;go_enter Tryz.func94,Tryz.ntmps94
     go_wp2_with fail
     refine(Gu HA.out).mono ?_;rintro e w'⟨rfl,rfl⟩
     go_wp2_with fail
     refine(Ir HA.out off ho).mono ?_;rintro e w1⟨rfl,hd⟩;rw [HF.out];have ha:=HA.out.dr hd;have y5:=ha.y5;have y6:=ha.y6;have c1:=ha.tk i hi;have c2:=ha.hd i hi;clear ha
     go_wp2_with fail
     refine(HD.out _).mono ?_;rintro e w'⟨rfl,hd'⟩;replace hd:=hd.trans hd';clear y5 y6 c1 c2 hd';have ha:=HA.out.dr hd;have y5:=ha.y5;have y6:=ha.y6;have c1:=ha.tk i hi;have c2:=ha.hd i hi;clear ha
     go_wp2_with fail
     refine(HE.out _).mono ?_;rintro e w'⟨rfl,hd'⟩;replace hd:=hd.trans hd';clear y5 y6 c1 c2 hd'
     go_wp2_with fail
     go_ret;rw [HV.out];exact⟨rfl,F,HS.out.dr hd,(AB.refl _ _).dr hd⟩
    ·rw [hb2]at HE;have HV:Hid (Fj s off=(bJ s i (AA x),0)):=Aa (by rw [Fj,hf];simp [hb1,hb2,hx1]);have HP:=Aa (fun W(k:Dr w W)=>jf (ht.dr k) i x hil hxl);clear ht hf hn hr hF hb1 hb2 hx1 hy1;go_enter Tryz.func94,Tryz.ntmps94
     go_wp2_with fail
     refine(Gu HA.out).mono ?_;rintro e w'⟨rfl,rfl⟩
     go_wp2_with fail
     refine(Ir HA.out off ho).mono ?_;rintro e w1⟨rfl,hd⟩;rw [HF.out];have ha:=HA.out.dr hd;have y5:=ha.y5;have y6:=ha.y6;have c1:=ha.tk i hi;have c2:=ha.hd i hi;clear ha
     go_wp2_with fail
     refine(HD.out _).mono ?_;rintro e w'⟨rfl,hd'⟩;replace hd:=hd.trans hd';clear y5 y6 c1 c2 hd';have ha:=HA.out.dr hd;have y5:=ha.y5;have y6:=ha.y6;have c1:=ha.tk i hi;have c2:=ha.hd i hi;clear ha
     go_wp2_with fail
     refine(HE.out _).mono ?_;rintro e w'⟨rfl,hd'⟩;replace hd:=hd.trans hd';clear y5 y6 c1 c2 hd'
     go_wp2_with fail
     refine(HP.out _ hd).mono ?_;rintro e w2⟨rfl,F2,hs2,hm2⟩
     go_wp2_with fail
     go_ret;rw [HV.out];exact⟨rfl,F2,hs2,((AB.refl F w).dr hd).trans hm2⟩
   ·have HV:Hid (Fj s off=({s with hd:=s.hd.set i (AA y)},0)):=Aa (by rw [Fj,hf];simp [hb1,hy1]);refine(ZM ht off ho hf hb1).mono ?_;rintro e w'⟨rfl,h1,h2⟩;rw [HV.out];rw [hy1]at h1;exact⟨rfl,F,h1,h2⟩
end
theorem ZN(k:Nat)(w:World)(hk:k<=10000):Calls Tryz.prog 118 #[.int .i64 (k:Int)] w fun e w'=>e= .returned (.int .i64 (Jy k:Nat))/\w=w':=by
 have e1:((k:Int)+8-1)/8=(((k+7)/8:Nat):Int):=by omega
 have e2:(2:Int)+(((k+7)/8:Nat):Int)=(Jy k:Nat):=by unfold Jy;omega
 have hb:(k+7)/8<=2000:=by omega
 generalize(k+7)/8=q at*;go_enter Tryz.func118,Tryz.ntmps118;go_wp2;go_ret;exact⟨by rw [<-e2];simp [e1],rfl⟩
theorem Aau(k b:Nat)(w:World)(hk:k<=10000)(hb:w.cell? ⟨b,0,none⟩=some (.func (.func 118) #[] #[])):
 Calls Tryz.prog 119 #[.int .i64 (k:Int),.pointer (some ⟨b,0,none⟩)] w fun e w'=>e= .returned (.int .i64 (Na k:Nat))/\w=w':=by
 have hq:Jy k<=3000:=by unfold Jy;omega
 have HA:=Aa (ZN k w hk);have e2:((Jy k:Nat):Int)+16*(k:Int)=(Na k:Nat):=by unfold Na;omega
 generalize Jy k=q at*;go_enter Tryz.func119,Tryz.ntmps119
 go_wp2_with fail
 refine HA.out.mono ?_;rintro e w'⟨rfl,rfl⟩
 go_wp2_with fail
 go_ret;exact⟨by rw [<-e2];rfl,rfl⟩
def ofV(L:Nat):Value:=match shapeOf L with
 | some sh=> .tuple #[.agg #[.int .i64 (sh.lines:Nat),.int .i64 (sh.BM:Nat),.int .i64 (sh.table:Nat),.int .i64 (sh.data:Nat)],.bool true]
 | none=> .tuple #[.agg #[.int .i64 0,.int .i64 0,.int .i64 0,.int .i64 0],.bool false]
theorem dE(L k:Nat)(hk:k<L)(h:Na (k+1)<=L):Ju L (L-k) k=Ju L (L- (k+1)) (k+1):=by
 obtain⟨f,hf⟩:∃f,L-k=f+1:=⟨L-k-1,by omega⟩;rw [hf,show L- (k+1)=f by omega,Ju,if_pos h]
theorem dF(L k:Nat)(h:¬Na (k+1)<=L):Ju L (L-k) k=k:=by
 cases hf:L-k with
 | zero=>rfl
 | succ f=>rw [Ju,if_neg h]
theorem oZ{P:Program}(a:Addr)(F:Fn)(fs cs:Array Value)(w:World):(store a (.func F fs cs)).run P w=stored P w a (.func F fs cs) .plain:=run_store P w a _ .plain rfl
theorem ZO{Q:Ending->World->Prop}{W:World}{tmps:Array Value}(g:Nat){a b c d:Value}(h:BI W g 73 [a,b,c,d])(v:Value)(h2:tmps[2]? =some (.pointer (some ⟨g,0,none⟩)))(h3:tmps[3]? =some v)
 (hq:Q (.returned (.tuple #[.agg #[a,b,c,d],v])) W):bodyPost Tryz.prog Tryz.f69 Q Exit.ret {tmps:=tmps,defers:=[]} W:=by
 obtain⟨y0,y1,y2,y3,f0,f1,f2,f3⟩:=Ce h;have hu:=run_underlying (P:=Tryz.prog) Tryz.underlying73;refine bodyPost_ret (v:= .tuple #[.agg #[a,b,c,d],v]) (by simp [results,Tryz.results69,go_sem,h2,h3,y0,y1,y2,y3]) rfl hq
theorem SK(L:Nat)(w:World)(hL:L<=1024):Calls Tryz.prog 69 #[.int .i64 (L:Int)] w fun e w'=>e= .returned (ofV L)/\Below w.heap.size w w':=by
 have t1:decide ((1024:Int)<(L:Int))=false:=decide_eq_false (by omega);have B0:BI (w.alloc (.cells #[.int .i64 0,.int .i64 0,.int .i64 0,.int .i64 0] 73)) w.heap.size 73 [.int .i64 0,.int .i64 0,.int .i64 0,.int .i64 0]:=heap_alloc_new _ _;have hs0:(w.alloc (.cells #[.int .i64 0,.int .i64 0,.int .i64 0,.int .i64 0] 73)).heap.size=w.heap.size+1:=by simp
 have B1:BI ((w.alloc (.cells #[.int .i64 0,.int .i64 0,.int .i64 0,.int .i64 0] 73)).alloc (.cells #[.nilFunc] 161)) (w.heap.size+1) 161 [.nilFunc]:=by rw [<-hs0];exact heap_alloc_new _ _
 have c1:=B1.cell 0;have f1:=B1.frozen 0;simp only [Ad]at c1;have sf:=fun a fs cs W=>oZ (P:=Tryz.prog) a (.func 118) fs cs W
 go_enter Tryz.func69,Tryz.ntmps69
 go_wp2_with fail
 obtain⟨W,hW⟩:∃W,W=((w.alloc (.cells #[.int .i64 0,.int .i64 0,.int .i64 0,.int .i64 0] 73)).alloc (.cells #[.func (.func 118) #[] #[]] 161)):=⟨_,rfl⟩;rw [<-hW];have k1:BI W (w.heap.size+1) 161 [.func (.func 118) #[] #[]]:=by rw [hW,<-hs0];exact heap_alloc_new _ _
 have k0:BI W w.heap.size 73 [.int .i64 0,.int .i64 0,.int .i64 0,.int .i64 0]:=by
  rw [hW];exact(heap_alloc_old _ _ (by omega)).trans B0
 have hbW:Below w.heap.size w W:=by rw [hW];exact(((Below.refl _ _).alloc (Ae _) _).alloc (by simp) _)
 have K1:=Aa (k1.cell 0);have K0:=Aa k0;have HB:=Aa hbW;clear B0 B1 c1 f1 hW k1 k0 hs0 hbW
 go_loopw [6](fun i wr=>∃k,k<=L/\i= .int .i64 (k:Nat)/\wr=W/\Ju L (L-k) k=Ph L)(fun i _=>L- (intOf i).toNat)
 case atStart=>exact⟨0,Nat.zero_le _,rfl,rfl,by rw [Nat.sub_zero];rfl⟩
 case round=>
  obtain⟨k,hk,rfl,rfl,hS⟩:=hrel;have HN:=Aa (Aau (k+1) (w.heap.size+1) wr (by omega) (by have:=K1.out;simpa using this));by_cases h1:Na (k+1)<=L
  ·have hk1:k<L:=by unfold Na at h1;omega
   have t2:decide (((Na (k+1):Nat):Int)<=(L:Int))=true:=decide_eq_true (by omega);have t2':decide (Na (k+1)<=L)=true:=decide_eq_true (by omega);have HS:Hid (Ju L (L- (k+1)) (k+1)=Ph L):=Aa (by rw [<-dE L k hk1 h1];exact hS);generalize Na (k+1)=nd at*;clear hS
   go_wp2_with fail
   rw [show(k:Int)+1=((k+1:Nat):Int)by omega];refine HN.out.mono ?_;rintro e w'⟨rfl,rfl⟩
   go_wp2_with fail
   go_roundw
   case rel=>exact⟨k+1,by omega,by go_num,trivial,HS.out⟩
   case measure=>simp [intOf];omega
  ·have hkS:Ph L=k:=by rw [<-hS];exact dF L k h1
   obtain⟨nd,hnd⟩:∃nd,Na (k+1)=nd:=⟨_,rfl⟩;rw [hnd]at HN h1;have t2:decide ((nd:Int)<=(L:Int))=false:=decide_eq_false (by omega);have t2':decide (nd<=L)=false:=decide_eq_false (by omega);clear hS h1 hnd;have HA:=Aa (ZN k wr (by omega));obtain⟨y0,y1,y2,y3,f0,f1,f2,f3⟩:=Ce K0.out;by_cases h0:k=0
   ·subst h0;have HV:Hid (ofV L= .tuple #[.agg #[.int .i64 0,.int .i64 0,.int .i64 0,.int .i64 0],.bool false]):=Aa (by
     unfold ofV shapeOf;rw [if_neg (by omega)];simp [hkS])
    have HN0:=HN.out;rw [show(((0+1:Nat)):Int)=1 from rfl]at HN0;have HN0:=Aa HN0;clear hkS
    go_wp2_with fail
    refine HN0.out.mono ?_;rintro e w'⟨rfl,rfl⟩
    go_wp2_with fail
    have k9:=(((K0.out.AU 0 (.int .i64 0)).AU 1 (.int .i64 0)).AU 2 (.int .i64 0)).AU 3 (.int .i64 0);have b9:=(((HB.out.setCell (p:=⟨w.heap.size,0,none⟩) (Ae _) (.int .i64 0)).setCell (p:=⟨w.heap.size,1,none⟩) (Ae _) (.int .i64 0)).setCell (p:=⟨w.heap.size,2,none⟩) (Ae _) (.int .i64 0)).setCell (p:=⟨w.heap.size,3,none⟩) (Ae _) (.int .i64 0);refine ZO w.heap.size k9 (.bool false) rfl rfl ?_;exact⟨by rw [HV.out],b9⟩
   ·have HV:Hid (ofV L= .tuple #[.agg #[.int .i64 (L:Nat),.int .i64 (k:Nat),.int .i64 128,.int .i64 ((64*Jy k:Nat):Int)],.bool true]):=Aa (by
    unfold ofV shapeOf;rw [if_neg (by omega)];simp [hkS,h0,Nat.mul_comm])
    have t3:((k:Int)==0)=false:=by rw [beq_eq_false_iff_ne];omega
    have hah:Jy k<=3000:=by unfold Jy;omega
    have k1:wr.cell? ⟨w.heap.size+1,0,none⟩=some (.func (.func 118) #[] #[]):=by have:=K1.out;simpa using this
    generalize Jy k=ah at*;clear hkS
    go_wp2_with fail
    rw [show(k:Int)+1=((k+1:Nat):Int)by omega];refine HN.out.mono ?_;rintro e w'⟨rfl,rfl⟩
    go_wp2_with fail
    refine HA.out.mono ?_;rintro e w'⟨rfl,rfl⟩
    go_wp2_with fail
    have k9:=(((K0.out.AU 0 (.int .i64 (L:Int))).AU 1 (.int .i64 (k:Int))).AU 2 (.int .i64 128)).AU 3 (.int .i64 ((ah:Int)*64));have b9:=(((HB.out.setCell (p:=⟨w.heap.size,0,none⟩) (Ae _) (.int .i64 (L:Int))).setCell (p:=⟨w.heap.size,1,none⟩) (Ae _) (.int .i64 (k:Int))).setCell (p:=⟨w.heap.size,2,none⟩) (Ae _) (.int .i64 128)).setCell (p:=⟨w.heap.size,3,none⟩) (Ae _) (.int .i64 ((ah:Int)*64));refine ZO w.heap.size k9 (.bool true) rfl rfl ?_;exact⟨by rw [HV.out];simp [Int.mul_comm],b9⟩
def pg(sh:Sh):Value:= .agg #[.int .i64 (sh.lines:Nat),.int .i64 (sh.BM:Nat),.int .i64 (sh.table:Nat),.int .i64 (sh.data:Nat)]
theorem wM(x:Nat)(hx:x<18446744073709551616):wv (AA x)= .int .u64 (x:Int):=by
 simp only [wv,Jh];rw [FM hx]
theorem RN:∀n,leBytes (Bq n (0:UInt64))=Bq (8*n) (0:UInt8)
 | 0=>rfl
 | n+1=>by
   rw [TD,leBytes,RN n,show UC 0=Bq 8 (0:UInt8)by decide,List.replicate_append_replicate,show 8+8*n=8*(n+1)by omega]
def PW(H:List UInt64)(k:Nat):List UInt64:=H.take k++Bq (H.length-k) 0
theorem dG(H:List UInt64)(k:Nat)(hk:k<=H.length):(PW H k).length=H.length:=by simp [PW];omega
theorem wO(H:List UInt64)(k:Nat)(hk:k<H.length):(PW H k).set k H[k]=PW H (k+1):=by
 obtain⟨r,hr⟩:∃r,H.length-k=r+1:=⟨H.length-k-1,by omega⟩;unfold PW;rw [hr,show H.length- (k+1)=r by omega,Rq _ _ (by simp;omega)];simp only [List.length_take,Nat.min_eq_left (Nat.le_of_lt hk),Nat.sub_self,TD,List.set_cons_zero];rw [List.take_succ_eq_append_getElem hk,List.append_assoc];rfl
theorem wP(H:List UInt64):PW H H.length=H:=by simp [PW]
theorem RP(sh:Sh)(w:World)(hL:sh.lines<=1024)(hs:shapeOf sh.lines=some sh)(hT:Adv w):Calls Tryz.prog 71 #[pg sh] w fun e w'=>∃v,e= .returned v/\w'.ownsRow w.heap.size 23 1 v 8 ((wordsOf sh).map wv)/\Below w.heap.size w w':=by
 have hOf:=fun W=>SK sh.lines W hL
 have HV:Hid (ofV sh.lines= .tuple #[pg sh,.bool true]):=Aa (by rw [ofV,hs];rfl);have HOf:=Aa hOf;have ok:=Io hs;have b1:=ok.fits;obtain⟨sl,hsl⟩:∃x,sh.BM=x:=⟨_,rfl⟩;obtain⟨tb,htb⟩:∃x,sh.table=x:=⟨_,rfl⟩;obtain⟨dt,hdt⟩:∃x,sh.data=x:=⟨_,rfl⟩;obtain⟨li,hli⟩:∃x,sh.lines=x:=⟨_,rfl⟩;have hv:pg sh= .agg #[.int .i64 (li:Int),.int .i64 (sl:Int),.int .i64 (tb:Int),.int .i64 (dt:Int)]:=by rw [pg,hsl,htb,hdt,hli]
 rw [hv]at HV⊢;rw [hli]at HV HOf hL;clear hOf hv;go_enter Tryz.func71,Tryz.ntmps71
 go_wp2_with fail
 have B0:BI (w.alloc (.cells #[.int .i64 (li:Int),.int .i64 (sl:Int),.int .i64 (tb:Int),.int .i64 (dt:Int)] 73)) w.heap.size 73 [.int .i64 (li:Int),.int .i64 (sl:Int),.int .i64 (tb:Int),.int .i64 (dt:Int)]:=heap_alloc_new _ _;refine(HOf.out _).mono ?_;rintro e w1⟨rfl,hb1⟩;have B1:=B0.below hb1 (by simp);have FC:Below w.heap.size w w1:=((Below.refl _ _).alloc (Ae _) _).trans (hb1.mono (by simp));have hg1:w.heap.size<w1.heap.size:=B1.lt;obtain⟨y0,y1,y2,y3,f0,f1,f2,f3⟩:=Ce B1;clear hb1 B0 f0 f1 f2 f3;rw [HV.out];obtain⟨i0,hi,hz0,hz1,hz2⟩:=info_parts Tryz.infoByte;obtain⟨H,hH⟩:∃H,headW sh=H:=⟨_,rfl⟩;have hHl:H.length=6:=by rw [<-hH];rfl
 have hrow:[Value.int .u64 465675318387,.int .u64 1,.int .u64 (li:Int),.int .u64 (sl:Int),.int .u64 (tb:Int),.int .u64 (dt:Int),.int .u64 0,.int .u64 0]=(H++[0,0]).map wv:=by
  have e:∀x:Nat,x<1000000->((AA x).toNat:Int)=(x:Int):=fun x hx=>by rw [Jh,FM (by omega)]
  have h1:=e li (by omega);have h2:=e sl (by have:=ok.fits;omega);have h3:=e tb (by have:=ok.table;omega);have h4:=e dt (by have:=ok.fits;omega);rw [<-hH,headW,hli,hsl,htb,hdt];simp only [List.cons_append,Et,List.map_cons,List.map_nil,wv,h1,h2,h3,h4];rfl
 have hb2:sl<=1000000:=by have:=ok.fits;omega
 have hb3:tb<=1000000:=by have:=ok.table;omega
 have hb4:dt<=1000000:=by have:=ok.fits;omega
 have dH:=Aa hrow;have HHd:=Aa hH;clear hrow hH ok b1 hsl htb hdt hs
 go_wp2_with(at_make;go_loud(refine wpList_make_full _ rfl _ _ 39 rfl w.heap.size 5 i0 (.int .u8 0) 1 Tryz.underlying39 hi hz0 hz1 .i64 .i64 _ _ 48 rfl rfl rfl rfl (by rw [hz2];decide) (by decide) (by simp;omega) ?_);intro w0 hown0 hgrow0)
 obtain⟨W2,hW2⟩:∃W2,W2=(w1.alloc (.cells #[.int .i64 (li:Int),.int .i64 (sl:Int),.int .i64 (tb:Int),.int .i64 (dt:Int)] 73)).alloc (.cells #[.int .u64 465675318387,.int .u64 1,.int .u64 (li:Int),.int .u64 (sl:Int),.int .u64 (tb:Int),.int .u64 (dt:Int),.int .u64 0,.int .u64 0] 23):=⟨_,rfl⟩;have hL0:BI W2 (w1.heap.size+1) 23 ((H++[0,0]).map wv):=by
  have e:(w1.alloc (.cells #[.int .i64 (li:Int),.int .i64 (sl:Int),.int .i64 (tb:Int),.int .i64 (dt:Int)] 73)).heap.size=w1.heap.size+1:=by simp
  rw [<-dH.out,<-e,hW2];exact heap_alloc_new _ _
 have hbW2:Below w.heap.size w W2:=by rw [hW2];exact(FC.alloc (by omega) _).alloc (by simp;omega) _
 rw [<-hW2]at hgrow0 hown0;have hs2:W2.heap.size=w1.heap.size+1+1:=by rw [hW2];simp
 rw [hs2]at hown0;have hlt0:=hL0.lt;have Agx:Below W2.heap.size W2 w0:=(Below.refl _ _).grown hgrow0 (Ae _) (by simp);rw [OY,show Bq 48 (0:UInt8)=leBytes (PW H 0)by rw [PW,List.take_zero,Et,hHl,RN]]at hown0;have HL0:=Aa hL0;have HB2:=Aa hbW2;clear hL0 hbW2 hgrow0 hW2 y0 y1 y2 y3 B1 FC
 go_loopw [6,39](fun b i wr=>∃k g c,k<=6/\i= .int .i64 (k:Nat)/\b= .slice (some ⟨g,0,none⟩) 48 c/\wr.ownsRow w.heap.size 5 1 (.slice (some ⟨g,0,none⟩) 48 c) 48 ((leBytes (PW H k)).map bv)/\Below W2.heap.size W2 wr)(fun _ i _=>6- (intOf i).toNat)
 case atStart=>
  refine⟨0,_,_,Nat.zero_le _,rfl,rfl,hown0,Agx⟩
 case round=>
  obtain⟨k,g,c,hk,rfl,rfl,hown,hbr⟩:=hrel;clear hown0 Agx;have hL1:=HL0.out.below hbr hlt0;by_cases hlt:k<6
  ·have hkH:k<H.length:=by omega
   have c1:=hL1.cell k;have ek:((H++[0,0]).map wv)[k]? =some (.int .u64 (H[k].toNat:Int)):=by
    rw [BO,List.getElem?_append_left hkH,Ag hkH];rfl
   rw [ek]at c1;have Py:=Aa (VC (some ⟨g,0,none⟩) 48 c k (PW H k) H[k] wr (by decide) (Cj hown).2 (by rw [dG H k (by omega)];omega));have wQ:=Aa (wO H k hkH);generalize H[k]=x at*;have Me:=Aa hbr;clear hL1 ek hown hbr
   go_wp2_with fail
   refine Py.out.mono ?_;rintro e w2⟨g2,c2,rfl,hown2,hb2'⟩;rw [wQ.out]at hown2;have QW:=Aa (E8 (base':=w.heap.size) hown2 (Nat.le_trans HB2.out.size Me.out.size));have HB3:=Aa (Me.out.trans (hb2'.mono Me.out.size));clear hown2 hb2' Py
   go_wp2_with fail
   go_roundw
   case rel=>exact⟨k+1,g2,c2,by omega,by go_num,rfl,QW.out,HB3.out⟩
   case measure=>simp [intOf];omega
  ·have hk6:k=6:=by omega
   subst hk6;rw [show PW H 6=H by rw [<-hHl];exact wP H]at hown;have hTw:Adv wr:=fun j hj=>(hbr.cell (p:=⟨0,j,none⟩) (Nat.lt_of_lt_of_le (Dq w _ (hT j hj)) HB2.out.size)).trans ((HB2.out.cell (p:=⟨0,j,none⟩) (Dq w _ (hT j hj))).trans (hT j hj))
   have Amx:=Aa (ou (some ⟨g,0,none⟩) 48 c (leBytes H) wr (by decide) (Cj hown).2 hTw);have hcr:Lh 0 (leBytes H)<4294967296:=by
    unfold Lh;have:=Xi 0 (leBytes H) (by decide) (leBytes H).length (Ae _);rw [O0,List.take_length]at this;exact Nat.xor_lt_two_pow (n:=32) this (by decide)
   have pq:Hid (wordsOf sh=H++[AA (Lh 0 (leBytes H)),0]):=Aa (by rw [wordsOf,HHd.out]);generalize Lh 0 (leBytes H)=cr at*;have hL1':=hL1;have c6:=hL1.cell 6;rw [BO,List.getElem?_append_right (by omega),hHl]at c6;have f6:=hL1.frozen 6;have HL1:=Aa hL1;have Me:=Aa hbr;clear hL1 hL1' hown hbr hTw
   go_wp2_with fail
   refine Amx.out.mono ?_;rintro e w'⟨rfl,rfl⟩
   go_wp2_with fail
   trace_state
   go_ret;have hL2:=HL1.out.AU 6 (.int .u64 (cr:Int));have e1:((H++[0,0]).map wv).set 6 (.int .u64 (cr:Int))=(wordsOf sh).map wv:=by
    rw [pq.out,<-wM cr (by omega),<-List.map_set,Rq _ _ (by omega),hHl];rfl
   rw [e1]at hL2;have Af6:=hL2.own (B:=w.heap.size) (by omega) (by rw [CZ,pq.out];simp [hHl];decide);have hl8:((wordsOf sh).map wv).length=8:=by rw [CZ,pq.out];simp [hHl]
   rw [hl8]at Af6;exact⟨_,rfl,Af6,(HB2.out.trans (Me.out.mono HB2.out.size)).setCell (p:=⟨w1.heap.size+1,6,none⟩) (by show w.heap.size<=w1.heap.size+1;omega) _⟩
theorem Pz{Q:Ending->World->Prop}{W:World}{tmps:Array Value}{fn:Func}(hr:fn.results= #[.cell 2 73,.tmp 3])(g:Nat){a b c d:Value}(h:BI W g 73 [a,b,c,d])(v:Value)(h2:tmps[2]? =some (.pointer (some ⟨g,0,none⟩)))(h3:tmps[3]? =some v)
 (hq:Q (.returned (.tuple #[.agg #[a,b,c,d],v])) W):bodyPost Tryz.prog fn Q Exit.ret {tmps:=tmps,defers:=[]} W:=by
 obtain⟨y0,y1,y2,y3,f0,f1,f2,f3⟩:=Ce h;have hu:=run_underlying (P:=Tryz.prog) Tryz.underlying73;refine bodyPost_ret (v:= .tuple #[.agg #[a,b,c,d],v]) (by simp [results,hr,go_sem,h2,h3,y0,y1,y2,y3]) rfl hq
theorem Dev.box{w:World}{d L:Nat}{ws:Nat->UInt64}{len:Mode}{mark:Nat->Nat}{own:Nat->Prop}(h:Dev w d L ws len mark own):∃g v1 v2 v3,BI w d 105 [.slice (some ⟨g,0,none⟩) L L,v1,v2,v3]:=by
 obtain⟨g,hb,hr,_⟩:=h;obtain⟨st,hbx⟩:=hr.box;exact⟨g,_,_,_,hbx⟩
theorem Dev.size{w:World}{d L:Nat}{ws:Nat->UInt64}{len:Mode}{mark:Nat->Nat}{own:Nat->Prop}(h:Dev w d L ws len mark own)(hL:L<=1024):Calls Tryz.prog 44 #[.pointer (some ⟨d,0,none⟩)] w fun e w'=>e= .returned (.int .i64 ((L*64:Nat):Int))/\w=w':=by
 obtain⟨g,_,_,_,hbx⟩:=h.box;exact Nq d L g _ _ _ w hL hbx
theorem pz{w:World}{d L:Nat}{ws:Nat->UInt64}{own:Nat->Prop}{sh:Sh}(hL0:0<L)(hL:L<=1024)(hs:shapeOf L=some sh)(h:Dev w d L ws M0 (fun _=>0) own)(hT:Tabs w)(g1:¬own 0)(g2:¬own 1):
 Calls Tryz.prog 86 #[.pointer (some ⟨d,0,none⟩)] w fun e w'=>e= .returned (.tuple #[pg sh,.int .i64 0])/\
  ∃own',Dev w' d L (BA (BA ws 0 (Bq (8*L) 0)) 0 (wordsOf sh)) M0 (fun _=>0) own'/\AB own own' w w':=by
 have ok:=Io hs;have hli:=ok.lines;have hlt:=h.lt;obtain⟨N,hN⟩:∃N,N=L*64:=⟨_,rfl⟩;have wR:=Aa (fun W(h:Dev W d L ws M0 (fun _=>0) own)=>by have:=h.size hL;rw [<-hN]at this;exact this);have e1:(N:Int)/64=(L:Int):=by omega
 have t1:((L:Int)==0)=false:=by rw [beq_eq_false_iff_ne];omega
 have HOf:=Aa (fun W=>SK L W hL);have HV:Hid (ofV L= .tuple #[pg sh,.bool true]):=Aa (by rw [ofV,hs];rfl);obtain⟨v0,v1,v2,v3,hsv⟩:∃v0 v1 v2 v3:Nat,pg sh= .agg #[.int .i64 (v0:Int),.int .i64 (v1:Int),.int .i64 (v2:Int),.int .i64 (v3:Int)]:=⟨_,_,_,_,rfl⟩;have HSV:=Aa hsv;rw [hsv]at HV;have B0:BI (w.alloc (.cells #[.int .i64 0,.int .i64 0,.int .i64 0,.int .i64 0] 73)) w.heap.size 73 [.int .i64 0,.int .i64 0,.int .i64 0,.int .i64 0]:=heap_alloc_new _ _;have hb0:Below w.heap.size w (w.alloc (.cells #[.int .i64 0,.int .i64 0,.int .i64 0,.int .i64 0] 73)):=(Below.refl _ _).alloc (Ae _) _;have HD:=Aa h;clear h hN hsv;go_enter Tryz.func86,Tryz.ntmps86
 go_wp2_with fail
 obtain⟨W0,hW0⟩:∃W0,W0=w.alloc (.cells #[.int .i64 0,.int .i64 0,.int .i64 0,.int .i64 0] 73):=⟨_,rfl⟩;rw [<-hW0]at B0 hb0⊢;have hlt0:w.heap.size<W0.heap.size:=B0.lt;clear hW0;refine(wR.out _ (HD.out.below hb0)).mono ?_;rintro e w'⟨rfl,rfl⟩
 go_wp2_with fail
 refine(HOf.out _).mono ?_;rintro e w1⟨rfl,hb1⟩;rw [HV.out];have FC:=hb0.trans (hb1.mono hb0.size);have B1:=B0.below hb1 hlt0;have HB1:=Aa FC;have Za:=Aa B1;clear hb0 hb1 B0 B1 FC
 go_wp2_with fail
 obtain⟨W2,hW2⟩:∃W2,W2=w1.alloc (.cells #[.int .i64 (v0:Int),.int .i64 (v1:Int),.int .i64 (v2:Int),.int .i64 (v3:Int)] 73):=⟨_,rfl⟩;have hS2:BI W2 w1.heap.size 73 [.int .i64 (v0:Int),.int .i64 (v1:Int),.int .i64 (v2:Int),.int .i64 (v3:Int)]:=by rw [hW2];exact heap_alloc_new _ _
 have Gv:Below w1.heap.size w1 W2:=by rw [hW2];exact(Below.refl _ _).alloc (Ae _) _
 have hR2:=Za.out.below Gv Za.out.lt;have Ep:=HB1.out.trans (Gv.mono HB1.out.size);have hw1:w.heap.size<=w1.heap.size:=HB1.out.size;have hD2:=HD.out.below Ep;have hT2:=hT.below Ep;rw [<-hW2];clear hW2 Gv;have HR2:=Aa hR2;have HS2:=Aa hS2;have HB2:=Aa Ep;have HT2:=Aa hT2;have SL:=Aa (wL hL0 hL hD2);clear hR2 hS2 Ep hT2 hD2;refine SL.out.mono ?_;rintro e w3⟨rfl,Aas,hD3,ht3,ho3⟩;have nr:¬own w.heap.size:=fun h=>by have:=hlt _ h;omega
 have ns:¬own w1.heap.size:=fun h=>by have:=hlt _ h;omega
 have hR3:=HR2.out.touch ht3 nr;have hS3:=HS2.out.touch ht3 ns;have hT3:=HT2.out.keep (ht3.block _ HT2.out.lt.1 g1) (ht3.block _ HT2.out.lt.2 g2);have hM3:AB own Aas w w3:=(AB.of_below HB2.out).trans ⟨ht3,ho3⟩;obtain⟨y0,y1,y2,y3,_,_,_,_⟩:=Ce hS3;have n1:∀b,b<W2.heap.size->¬own b->¬Aas b:=fun b hlt hn h=>(ho3 b h).elim hn (fun h=>by omega)
 have n1r:=n1 _ HR2.out.lt nr;have n1s:=n1 _ HS2.out.lt ns;have HR3:=Aa hR3;have P5:=Aa hS3;have HD3:=Aa hD3;have HM3:=Aa hM3;have pq:=RP sh w3 (by omega) (by rw [hli];exact hs) hT3.fours;rw [HSV.out]at pq;have pq:=Aa pq;clear hD3 ht3 ho3 hR3 hS3 hT3 hM3 SL
 go_wp2_with fail
 refine pq.out.mono ?_;rintro e w4⟨v4,rfl,hown4,hb4⟩;obtain⟨A4,c4,rfl,hc4,hr4⟩:=CP hown4;obtain⟨gd,hbd,hrd,hod⟩:=HD3.out;have hD4:Dev w4 d L (BA ws 0 (Bq (8*L) 0)) M0 (fun _=>0) Aas:=⟨gd,hbd,hrd.below hb4,hod⟩;have HP:=XB hL0 hL hD4 0 8 c4 A4 (wordsOf sh) (by omega) (by decide) hr4;rw [show((8*0:Nat):Int)=0 from rfl]at HP;have HP:=Aa HP;have hR4:=HR3.out.below hb4 HR3.out.lt;have hS4:=P5.out.below hb4 P5.out.lt;have HR4:=Aa hR4;have gI:=Aa hS4;have HM4:=Aa (HM3.out.below hb4);clear hD4 hrd hod hown4 hr4 hb4 hR4 hS4 y0 y1 y2 y3 pq
 go_wp2_with fail
 refine HP.out.mono ?_;rintro e w5⟨rfl,Aat,hD5,ht5,V8⟩;have bW:=HR4.out.touch ht5 n1r;have hS5:=gI.out.touch ht5 n1s;have KA:=Aa (HM4.out.trans ⟨ht5,V8⟩);have n2r:¬Aat w.heap.size:=fun h=>(V8 _ h).elim n1r (fun h=>by have:=HR4.out.lt;omega)
 have HD5:=Aa hD5;obtain⟨y0,y1,y2,y3,_,_,_,_⟩:=Ce hS5;obtain⟨z0,z1,z2,z3,f0,f1,f2,f3⟩:=Ce bW;have zn:=Aa bW;clear hD5 ht5 V8 bW hS5 HP
 go_wp2_with fail
 have k9:=(((zn.out.AU 0 (.int .i64 (v0:Int))).AU 1 (.int .i64 (v1:Int))).AU 2 (.int .i64 (v2:Int))).AU 3 (.int .i64 (v3:Int));have t9:Touch (fun b=>b=w.heap.size) w5 ((((w5.setCell ⟨w.heap.size,0,none⟩ (.int .i64 (v0:Int))).setCell ⟨w.heap.size,1,none⟩ (.int .i64 (v1:Int))).setCell ⟨w.heap.size,2,none⟩ (.int .i64 (v2:Int))).setCell ⟨w.heap.size,3,none⟩ (.int .i64 (v3:Int))):=
  ((((Touch.refl (fun b=>b=w.heap.size) w5).setCell (p:=⟨w.heap.size,0,none⟩) (.inl rfl) _).setCell (p:=⟨w.heap.size,1,none⟩) (.inl rfl) _).setCell (p:=⟨w.heap.size,2,none⟩) (.inl rfl) _).setCell (p:=⟨w.heap.size,3,none⟩) (.inl rfl) _
 refine Pz rfl w.heap.size k9 (.int .i64 0) rfl rfl ?_;refine⟨by rw [HSV.out],Aat,HD5.out.touch t9 (fun b hb e=>n2r (e▸hb)),⟨?_,KA.out.own⟩⟩;exact(KA.out.touch.trans t9 (fun b hb=> .inr (by omega)))
def Uj(ws:Nat->UInt64)(sh:Sh):Value:=if wordsAt ws 0 8=wordsOf sh then .tuple #[pg sh,.int .i64 0]else .tuple #[.agg #[.int .i64 0,.int .i64 0,.int .i64 0,.int .i64 0],.int .i64 5]
theorem ZP{len:Mode}{w:World}{d L:Nat}{ws:Nat->UInt64}{own:Nat->Prop}{sh:Sh}(hL0:0<L)(hL:L<=1024)(hs:shapeOf L=some sh)(hu:len.lf≠0)(h:Dev w d L ws len (fun _=>0) own)(hT:Tabs w):
 Calls Tryz.prog 30 #[.pointer (some ⟨d,0,none⟩)] w fun e w'=>e= .returned (Uj ws sh)/\Below w.heap.size w w':=by
 have ok:=Io hs;have hli:=ok.lines;obtain⟨N,hN⟩:∃N,N=L*64:=⟨_,rfl⟩;have wR:=Aa (fun W(h:Dev W d L ws len (fun _=>0) own)=>by have:=h.size hL;rw [<-hN]at this;exact this);have e1:(N:Int)/64=(L:Int):=by omega
 have t1:((L:Int)==0)=false:=by rw [beq_eq_false_iff_ne];omega
 have HOf:=Aa (fun W=>SK L W hL);have HV:Hid (ofV L= .tuple #[pg sh,.bool true]):=Aa (by rw [ofV,hs];rfl);obtain⟨v0,v1,v2,v3,hsv⟩:∃v0 v1 v2 v3:Nat,pg sh= .agg #[.int .i64 (v0:Int),.int .i64 (v1:Int),.int .i64 (v2:Int),.int .i64 (v3:Int)]:=⟨_,_,_,_,rfl⟩;have HSV:=Aa hsv;rw [hsv]at HV;have B0:BI (w.alloc (.cells #[.int .i64 0,.int .i64 0,.int .i64 0,.int .i64 0] 73)) w.heap.size 73 [.int .i64 0,.int .i64 0,.int .i64 0,.int .i64 0]:=heap_alloc_new _ _;have hb0:Below w.heap.size w (w.alloc (.cells #[.int .i64 0,.int .i64 0,.int .i64 0,.int .i64 0] 73)):=(Below.refl _ _).alloc (Ae _) _;have HD:=Aa h;have HDb:=Aa (fun W(k:Below w.heap.size w W)=>(h.below k:Dev W d L ws len (fun _=>0) own));clear h hN hsv;go_enter Tryz.func30,Tryz.ntmps30
 go_wp2_with fail
 obtain⟨W0,hW0⟩:∃W0,W0=w.alloc (.cells #[.int .i64 0,.int .i64 0,.int .i64 0,.int .i64 0] 73):=⟨_,rfl⟩;rw [<-hW0]at B0 hb0⊢;have hlt0:w.heap.size<W0.heap.size:=B0.lt;clear hW0;refine(wR.out _ (HDb.out _ hb0)).mono ?_;rintro e w'⟨rfl,rfl⟩;obtain⟨gd,hbd,hrd,hod⟩:=HDb.out _ hb0;have HG:=cZ d L ws _ _ gd hbd 0 8 W0 hL0 hL hu hrd (by omega);rw [show((8*0:Nat):Int)=0 from rfl]at HG;have HG:=Aa HG;clear hrd hod
 go_wp2_with fail
 refine HG.out.mono ?_;rintro e w1⟨v1',rfl,ho1,hb1⟩;obtain⟨A1,c1,rfl,hc1,hr1⟩:=CP ho1;have FC:=hb0.trans (hb1.mono hb0.size);have B1:=B0.below hb1 hlt0;have HR1:Hid (Ws w1 A1 8 (wordsAt ws 0 8)):=Aa hr1;have HB1:=Aa FC;have Za:=Aa B1;clear hb0 hb1 B0 B1 FC ho1 hr1 HG
 go_wp2_with fail
 refine(HOf.out _).mono ?_;rintro e w2⟨rfl,hb2⟩;rw [HV.out];have Ep:=HB1.out.trans (hb2.mono HB1.out.size);have hlt1:=Za.out.lt;have Agy:=Za.out.below hb2 hlt1;have hr2:=HR1.out.below hb2;obtain⟨W3,hW3⟩:∃W3,W3=w2.alloc (.cells #[.int .i64 (v0:Int),.int .i64 (v1:Int),.int .i64 (v2:Int),.int .i64 (v3:Int)] 73):=⟨_,rfl⟩;have FT:Below w2.heap.size w2 W3:=by rw [hW3];exact(Below.refl _ _).alloc (Ae _) _
 have hS3:BI W3 w2.heap.size 73 [.int .i64 (v0:Int),.int .i64 (v1:Int),.int .i64 (v2:Int),.int .i64 (v3:Int)]:=by rw [hW3];exact heap_alloc_new _ _
 have Aj6:=Agy.below FT Agy.lt;have Og:=Ep.trans (FT.mono Ep.size);have pq:=RP sh W3 (by omega) (by rw [hli];exact hs) (hT.below Og).fours;rw [HSV.out]at pq;have pq:=Aa pq;have HR3:=Aa (hr2.below FT);have P5:=Aa hS3;have Aav:=Aa Aj6;have HB3:=Aa Og;have HW3:=Aa hW3;clear Ep Agy hr2 FT hS3 Aj6 Og hb2 hW3 Za HR1
 go_wp2_with fail
 rw [<-HW3.out];refine pq.out.mono ?_;rintro e w4⟨v4,rfl,hown4,hb4⟩;obtain⟨A4,c4,rfl,hc4,hr4⟩:=CP hown4;have HEq:=Aa (Po A1 A4 8 8 c1 c4 (wordsAt ws 0 8) (wordsOf sh) w4 (by decide) (by decide) (HR3.out.below hb4) hr4);have gI:=Aa (P5.out.below hb4 P5.out.lt);have UI:=Aa (Aav.out.below hb4 Aav.out.lt);have HB4:=Aa (HB3.out.trans (hb4.mono HB3.out.size));clear hown4 hr4 hb4 pq;by_cases he:wordsAt ws 0 8=wordsOf sh
 ·rw [decide_eq_true he]at HEq;have HVV:Hid (Uj ws sh= .tuple #[pg sh,.int .i64 0]):=Aa (by rw [Uj,if_pos he]);clear he
  go_wp2_with fail
  refine HEq.out.mono ?_;rintro e w5⟨rfl,q,rfl⟩;have hS5:=gI.out.below ((Dr.one w4 q).below _) gI.out.lt;have bW:=UI.out.below ((Dr.one w4 q).below _) UI.out.lt;obtain⟨W5,ZQ⟩:∃W5,W5=w4.drewN q:=⟨_,rfl⟩;have hb5:Below w.heap.size w W5:=HB4.out.trans ((by rw [ZQ];exact(Dr.one w4 q).below _));rw [<-ZQ]at hS5 bW⊢;clear ZQ;obtain⟨y0,y1,y2,y3,_,_,_,_⟩:=Ce hS5;obtain⟨z0,z1,z2,z3,f0,f1,f2,f3⟩:=Ce bW;have zn:=Aa bW;have Ou:=Aa hb5;clear bW hS5 hb5
  go_wp2_with fail
  have k9:=(((zn.out.AU 0 (.int .i64 (v0:Int))).AU 1 (.int .i64 (v1:Int))).AU 2 (.int .i64 (v2:Int))).AU 3 (.int .i64 (v3:Int));have b9:=(((Ou.out.setCell (p:=⟨w.heap.size,0,none⟩) (Ae _) (.int .i64 (v0:Int))).setCell (p:=⟨w.heap.size,1,none⟩) (Ae _) (.int .i64 (v1:Int))).setCell (p:=⟨w.heap.size,2,none⟩) (Ae _) (.int .i64 (v2:Int))).setCell (p:=⟨w.heap.size,3,none⟩) (Ae _) (.int .i64 (v3:Int));refine Pz rfl w.heap.size k9 (.int .i64 0) rfl rfl ?_;exact⟨by rw [HVV.out,HSV.out],b9⟩
 ·rw [decide_eq_false he]at HEq;have HVV:Hid (Uj ws sh= .tuple #[.agg #[.int .i64 0,.int .i64 0,.int .i64 0,.int .i64 0],.int .i64 5]):=Aa (by rw [Uj,if_neg he]);clear he
  go_wp2_with fail
  refine HEq.out.mono ?_;rintro e w5⟨rfl,q,rfl⟩;have bW:=UI.out.below ((Dr.one w4 q).below _) UI.out.lt;obtain⟨W5,ZQ⟩:∃W5,W5=w4.drewN q:=⟨_,rfl⟩;have hb5:Below w.heap.size w W5:=HB4.out.trans ((by rw [ZQ];exact(Dr.one w4 q).below _));rw [<-ZQ]at bW⊢;clear ZQ;obtain⟨z0,z1,z2,z3,f0,f1,f2,f3⟩:=Ce bW;have zn:=Aa bW;have Ou:=Aa hb5;clear bW hb5
  go_wp2_with fail
  have k9:=(((zn.out.AU 0 (.int .i64 0)).AU 1 (.int .i64 0)).AU 2 (.int .i64 0)).AU 3 (.int .i64 0);have b9:=(((Ou.out.setCell (p:=⟨w.heap.size,0,none⟩) (Ae _) (.int .i64 0)).setCell (p:=⟨w.heap.size,1,none⟩) (Ae _) (.int .i64 0)).setCell (p:=⟨w.heap.size,2,none⟩) (Ae _) (.int .i64 0)).setCell (p:=⟨w.heap.size,3,none⟩) (Ae _) (.int .i64 0);refine Pz rfl w.heap.size k9 (.int .i64 5) rfl rfl ?_;exact⟨by rw [HVV.out],b9⟩
theorem jg(w:World):Calls Tryz.prog 30 #[.pointer none] w fun e w'=>e= .returned (.tuple #[.agg #[.int .i64 0,.int .i64 0,.int .i64 0,.int .i64 0],.int .i64 1])/\Below w.heap.size w w':=by
 have wR:=fun W=>Aa (size_nil W)
 have B0:BI (w.alloc (.cells #[.int .i64 0,.int .i64 0,.int .i64 0,.int .i64 0] 73)) w.heap.size 73 [.int .i64 0,.int .i64 0,.int .i64 0,.int .i64 0]:=heap_alloc_new _ _;have hb0:Below w.heap.size w (w.alloc (.cells #[.int .i64 0,.int .i64 0,.int .i64 0,.int .i64 0] 73)):=(Below.refl _ _).alloc (Ae _) _;go_enter Tryz.func30,Tryz.ntmps30
 go_wp2_with fail
 obtain⟨W0,hW0⟩:∃W0,W0=w.alloc (.cells #[.int .i64 0,.int .i64 0,.int .i64 0,.int .i64 0] 73):=⟨_,rfl⟩;rw [<-hW0]at B0 hb0⊢;clear hW0;refine(wR _).out.mono ?_;rintro e w'⟨rfl,rfl⟩;obtain⟨z0,z1,z2,z3,f0,f1,f2,f3⟩:=Ce B0;have HB0:=Aa B0;have Hb0:=Aa hb0;clear B0 hb0
 go_wp2_with fail
 have k9:=(((HB0.out.AU 0 (.int .i64 0)).AU 1 (.int .i64 0)).AU 2 (.int .i64 0)).AU 3 (.int .i64 0);have b9:=(((Hb0.out.setCell (p:=⟨w.heap.size,0,none⟩) (Ae _) (.int .i64 0)).setCell (p:=⟨w.heap.size,1,none⟩) (Ae _) (.int .i64 0)).setCell (p:=⟨w.heap.size,2,none⟩) (Ae _) (.int .i64 0)).setCell (p:=⟨w.heap.size,3,none⟩) (Ae _) (.int .i64 0);refine Pz rfl w.heap.size k9 (.int .i64 1) rfl rfl ?_;exact⟨rfl,b9⟩
section
variable{dv:Value}{er:Nat}
theorem XJ{w:World}(h0:0<er)(hH:Calls Tryz.prog 30 #[dv] w fun e w'=>e= .returned (.tuple #[.agg #[.int .i64 0,.int .i64 0,.int .i64 0,.int .i64 0],.int .i64 (er:Int)])/\Below w.heap.size w w'):
 Calls Tryz.prog 65 #[dv] w fun e w'=>e= .returned (.tuple #[.pointer none,.int .i64 (er:Int)])/\Below w.heap.size w w':=by
 have t0:((er:Int)==0)=false:=by rw [beq_eq_false_iff_ne];omega
 have t1:(er==0)=false:=by rw [beq_eq_false_iff_ne];omega
 have HH:=Aa hH;clear hH;go_enter Tryz.func65,Tryz.ntmps65
 go_wp2_with fail
 refine HH.out.mono ?_;rintro e w1⟨rfl,hb1⟩;have HB1:=Aa hb1;clear hb1 HH
 go_wp2_with fail
 go_ret2;exact⟨rfl,HB1.out.alloc HB1.out.size _⟩
theorem XK{w:World}(h0:0<er)(hH:∀W,Below w.heap.size w W->Calls Tryz.prog 65 #[dv] W fun e w'=>e= .returned (.tuple #[.pointer none,.int .i64 (er:Int)])/\Below W.heap.size W w'):
 Calls Tryz.prog 29 #[dv] w fun e w'=>e= .returned (.tuple #[.agg #[.pointer none,.pointer none,.int .u64 0],.int .i64 (er:Int)])/\Below w.heap.size w w':=by
 have t0:((er:Int)==0)=false:=by rw [beq_eq_false_iff_ne];omega
 have t1:(er==0)=false:=by rw [beq_eq_false_iff_ne];omega
 obtain⟨w1,hw1⟩:∃w1,w1=w.alloc (.cells #[.pointer none,.pointer none,.int .u64 0] 69):=⟨_,rfl⟩;have hb1:Below w.heap.size w w1:=hw1▸(Below.refl _ _).alloc (Ae _) _;have hB1:BI w1 w.heap.size 69 [.pointer none,.pointer none,.int .u64 0]:=hw1▸heap_alloc_new _ _;have HH:=Aa (hH w1 hb1);have HB1:=Aa hb1;have zq:=Aa hB1;have HW1:=Aa hw1;clear hH hb1 hB1 hw1;go_enter Tryz.func29,Tryz.ntmps29
 go_wp2_with fail
 rw [<-HW1.out];refine HH.out.mono ?_;rintro e w7⟨rfl,hb7⟩;have dI:=Aa (HB1.out.trans (hb7.mono HB1.out.size));have k7:=zq.out.below hb7 zq.out.lt;have f0:=k7.frozen 0;have f1:=k7.frozen 1;have f2:=k7.frozen 2;have e0:=k7.cell 0;have e1:=k7.cell 1;have e2:=k7.cell 2;simp only [Ad,List.getElem?_cons_succ]at e0 e1 e2;have HK7:=Aa k7;clear hb7 k7 HH
 go_wp2_with fail
 have k9:=((HK7.out.AU 0 (.pointer none)).AU 1 (.pointer none)).AU 2 (.int .u64 0);have b9:=((dI.out.setCell (p:=⟨w.heap.size,0,none⟩) (Ae _) (.pointer none)).setCell (p:=⟨w.heap.size,1,none⟩) (Ae _) (.pointer none)).setCell (p:=⟨w.heap.size,2,none⟩) (Ae _) (.int .u64 0);obtain⟨W,hW⟩:∃W,W=((w7.setCell ⟨w.heap.size,0,none⟩ (.pointer none)).setCell ⟨w.heap.size,1,none⟩ (.pointer none)).setCell ⟨w.heap.size,2,none⟩ (.int .u64 0):=⟨_,rfl⟩;rw [<-hW];rw [<-hW]at k9 b9;have y0:=k9.cell 0;have y1:=k9.cell 1;have y2:=k9.cell 2;simp at y0 y1 y2;refine bodyPost_ret (v:= .tuple #[.agg #[.pointer none,.pointer none,.int .u64 0],.int .i64 (er:Int)]) (by simp [results,Tryz.results29,go_sem,y0,y1,y2]) rfl ?_;exact⟨rfl,b9⟩
end
theorem jh(w:World):Calls Tryz.prog 29 #[.pointer none] w fun e w'=>e= .returned (.tuple #[.agg #[.pointer none,.pointer none,.int .u64 0],.int .i64 1])/\Below w.heap.size w w':=
 XK (er:=1) (by decide) (fun W _=>XJ (er:=1) (by decide) (jg W))
def Aj7:Sh:={lines:=40,BM:=2,table:=128,data:=192}
theorem Ad6:shapeOf 40=some Aj7:=by decide+kernel
theorem ji{w:World}{d:Nat}{own:Nat->Prop}(h:Dev w d 40 (fun _=>0) M0 (fun _=>0) own)(hT:Tabs w):Calls Tryz.prog 29 #[.pointer (some ⟨d,0,none⟩)] w fun e w'=>e= .returned (.tuple #[.agg #[.pointer none,.pointer none,.int .u64 0],.int .i64 5])/\Below w.heap.size w w':=by
 have hV:Uj (fun _=>0) Aj7= .tuple #[.agg #[.int .i64 0,.int .i64 0,.int .i64 0,.int .i64 0],.int .i64 5]:=by
  unfold Uj;rw [if_neg (by decide+kernel)]
 refine XK (er:=5) (by decide) (fun W hW=>XJ (er:=5) (by decide) ?_);have:=ZP (by decide) (by decide) Ad6 (by decide) (h.below hW) (hT.below hW);rw [hV]at this;exact this
end Go.Proofs.YtjcppneoncpdbaaGreatDoor
