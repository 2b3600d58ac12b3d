/- TraceShort is true for every input: what is accepted is so up to each step; with an answer more, or fewer, it is not. The row lists two variables of the program and the library, which the card ties to the program's text. No other condition. -/
import Derived.Test.YteejpmddddnmnaaGreatDoorTie
import Derived.Test.YteejpmddddnmnaaGreatDoorCards
import Derived.Test.YteejpmddddnmnaaGreatDoorK11
set_option maxHeartbeats 32000000
set_option maxRecDepth 100000
namespace Go.Proofs.YteejpmddddnmnaaGreatDoor.traceShort
open Go.ChangeShapes Go.WideShapes Go.ChangeAt Go.RowKit
open Go.ChangeMaps(open_string shut_string)
theorem own:ownKnob Tryz.prog.godebug=none:=by kernel_rfl
theorem laidOut:laidOutB Tryz.prog=true:=by kernel_rfl
theorem lifted(os:Os)(U:os.Started)(H:Type)(enc:TypeId×Value->H):
 ReturnsInHanded {} Tryz.checked os 3 .any (fun b a=>(Rows.traceShortSpec.pre enc Tryz.prog Tryz.f3 [] false b a/\laidMetH Tryz.prog laid2 b)/\sizedMet enc Tryz.prog Tryz.f3 (OpenSpec.ofChange Rows.traceShortSpec) false b a)
  (Rows.traceShortSpec.post enc Tryz.prog Tryz.f3 false true false false):=by
 refine returnsInHanded_of_change_and (C:=Tryz.checked) (X:=fun b _=>laidMetH Tryz.prog laid2 b) (fun _ _ _ G h=>h.of_heap G) own U (by kernel_rfl) Tryz.func3
  (ChangeSpec.witness_shaped (enc:=enc) (C:=Tryz.checked) (os:=os) (X:=fun b _=>laidMetH Tryz.prog laid2 b) false (World.doorLaid Tryz.prog 400 os) #[.slice none 0 0,.int .u8 0,.int .u16 0] 8 rfl (World.shaped_of_RefB (by kernel_rfl) (by kernel_rfl)) (by kernel_rfl) (by kernel_rfl) (by kernel_rfl) (door_met os _)) ?_
 intro c v a x am ac l k _ _ A _;have d:∀(j:Nat)n o,Tryz.f3.params[j]?=some n->a[j]?=some o->Value.okWide Tryz.prog c .any v n o:=l;have E:=k;obtain⟨O,au,i,D,rfl,ao,ap⟩:=k;have g:DataW.TrodAll enc Tryz.prog c 0 (fun _=>true) true Tryz.f3.params.toList a.toList x O:=i;rw[Tryz.params3]at g d;obtain⟨p,aD,d0,ad,P,av,an,rfl,rfl,f,Q⟩:=trodAll_cons g;obtain⟨q,aE,d1,ae,aq,aw,rfl,rfl,rfl,y,R⟩:=trodAll_cons Q;obtain⟨r,aG,d2,ah,ar,az,rfl,rfl,rfl,z,S⟩:=trodAll_cons R;obtain⟨rfl,rfl,rfl⟩:=trodAll_nil S;obtain rfl:a= #[p,q,r]:=by cases a;simp_all
 obtain⟨rfl,rfl⟩:=trodVars_none D;have m:=f;have K:∀V∈P,V.block<c:=by obtain⟨L,I⟩:=m;exact DataW.trod_lt L _ _ _ I
 obtain⟨u,w,J,rfl,M,N,T⟩:=open_bytes f (by obtain⟨_,_,_,rfl⟩:=okWide_slice Tryz.underlying22 (d 0 22 p rfl rfl);rfl);obtain⟨aa,rfl,rfl,rfl,s⟩:=open_int Tryz.underlying5 (d 1 5 q rfl rfl) y;obtain⟨W,rfl,u1⟩:=Axp s;obtain⟨ab,rfl,rfl,rfl,t⟩:=open_int Tryz.underlying23 (d 2 23 r rfl rfl) z;obtain⟨Y,rfl,u2⟩:=At6 t;clear i l;have B:=wI A;refine(lG J u w W Y c M N u1 u2 T B).mono fun al Z⟨F,e⟩=>?_
 subst F;exact⟨_,rfl,_,_,_,[],_,[],E,trodAll_mk1 (shut_bool Tryz.underlying4 _),(trodAll_cons_mk (Below.trod laidOut (by kernel_rfl) (of_decide_eq_true (by kernel_rfl)) m e K) (trodAll_cons_mk (shut_int Tryz.underlying5 s) (trodAll_cons_mk (shut_int Tryz.underlying23 t) trodAll_mk0))),rfl,e.frame _,fun h=>by cases h⟩
theorem over:Rows.traceShortRow.holds Tryz.pinned (OpenSpec.ofChange Rows.traceShortSpec):=
 OpenClaim.holds_of_wide 3 Tryz.f3 rfl rfl rfl rfl rfl rfl rfl ⟨rfl,rfl,rfl,rfl,rfl⟩ rfl rfl rfl rfl rfl (by kernel_rfl) Tryz.func3 closed
  (of_decide_eq_true (by kernel_rfl)) (by unfold Func.isWrapper;first|(rw[if_pos (by decide+kernel)];kernel_rfl)|(rw[if_neg (by decide+kernel)];exact⟨rfl,rfl⟩))
  (fun c d a b _=>lifted c d a b)
theorem proved:Rows.TraceShortCardSaid:=
 Claim7.holds_tied_plain_at .later [] [.data,.data] true _ true over (fun _ h=>by cases h) (by kernel_rfl) (fun _ h=>by cases h) traceShort_row_tie rfl ⟨rfl,rfl⟩ (by kernel_rfl) rfl
  (fun d e f g=>by
   obtain rfl:d=3:=Option.some.inj ((by kernel_rfl:_=some 3).symm.trans f)|>.symm;obtain rfl:e=Tryz.f3:=(Option.some.inj (Tryz.func3.symm.trans g)).symm;exact⟨by kernel_rfl,fun a c b=>by
    rw[Tryz.params3]at b;rcases a with _|a
    ·obtain rfl:c=22:=by simpa using b.symm
     kernel_rfl
    rcases a with _|a
    ·obtain rfl:c=5:=by simpa using b.symm
     kernel_rfl
    rcases a with _|a
    ·obtain rfl:c=23:=by simpa using b.symm
     kernel_rfl
    simp at b⟩)
  (by kernel_rfl)
#print axioms proved
end Go.Proofs.YteejpmddddnmnaaGreatDoor.traceShort
