/- ScriptRuns is true for every input: what comes of a run is what the engine's calls answer, one by one. The row lists two variables of the program and the library, which the card ties to the program's text. No other condition. -/
import Derived.Test.YtfmkofmaabgbkaaGreatDoorTie
import Derived.Test.YtfmkofmaabgbkaaGreatDoorCards
import Derived.Test.YtfmkofmaabgbkaaGreatDoorJ39
import Derived.Test.YtfmkofmaabgbkaaGreatDoorJ41
set_option maxHeartbeats 32000000
set_option maxRecDepth 100000
namespace Go.Proofs.YtfmkofmaabgbkaaGreatDoor.scriptRuns
open Go.ChangeShapes Go.WideShapes Go.ChangeAt Go.RowKit
open Go.ChangeMaps(open_string shut_string)
theorem own:ownKnob Tryz.prog.godebug=none:=by kernel_rfl
theorem laidOut:laidOutB Tryz.prog=true:=by kernel_rfl
theorem lifted(os:Os)(Q:os.Started)(H:Type)(enc:TypeId×Value->H):
 ReturnsInHanded {} Tryz.checked os 3 .any (fun b a=>(Rows.scriptRunsSpec.pre enc Tryz.prog Tryz.f3 [] false b a/\laidMetH Tryz.prog laid2 b)/\sizedMet enc Tryz.prog Tryz.f3 (OpenSpec.ofChange Rows.scriptRunsSpec) false b a)
  (Rows.scriptRunsSpec.post enc Tryz.prog Tryz.f3 false true false false):=by
 refine returnsInHanded_of_change_and (C:=Tryz.checked) (X:=fun b _=>laidMetH Tryz.prog laid2 b) (fun _ _ _ D h=>h.of_heap D) own Q (by kernel_rfl) Tryz.func3
  (ChangeSpec.witness_shaped (enc:=enc) (C:=Tryz.checked) (os:=os) (X:=fun b _=>laidMetH Tryz.prog laid2 b) false (World.doorLaid Tryz.prog 400 os) #[.slice none 0 0,.int .u8 0] 8 rfl (World.shaped_of_RefB (by kernel_rfl) (by kernel_rfl)) (by kernel_rfl) (by kernel_rfl) (by kernel_rfl) (door_met os _)) ?_
 intro c t a v aa V l k _ _ x _;have d:∀(j:Nat)n o,Tryz.f3.params[j]?=some n->a[j]?=some o->Value.okWide Tryz.prog c .any t n o:=l;have A:=k;obtain⟨L,ah,i,z,rfl,ac,ad⟩:=k;have g:DataW.TrodAll enc Tryz.prog c 0 (fun _=>true) true Tryz.f3.params.toList a.toList v L:=i;rw[Tryz.params3]at g d;obtain⟨p,an,d0,W,M,al,ab,rfl,rfl,f,N⟩:=trodAll_cons g;obtain⟨q,ao,d1,Y,ae,am,rfl,rfl,rfl,w,O⟩:=trodAll_cons N;obtain⟨rfl,rfl,rfl⟩:=trodAll_nil O;obtain rfl:a= #[p,q]:=by cases a;simp_all
 obtain⟨rfl,rfl⟩:=trodVars_none z;have m:=f;have G:∀R∈M,R.block<c.heap.size:=by obtain⟨I,E⟩:=m;exact DataW.trod_lt I _ _ _ E
 obtain⟨s,u,F,rfl,J,K,P⟩:=open_bytes f (by obtain⟨_,_,_,rfl⟩:=okWide_slice Tryz.underlying22 (d 0 22 p rfl rfl);rfl);obtain⟨U,rfl,rfl,rfl,r⟩:=open_int Tryz.underlying5 (d 1 5 q rfl rfl) w;obtain⟨S,rfl,u1⟩:=Ar2 r;clear i l;have y:=pR x;refine(scriptRuns_any F s u S c J K u1 P y).mono fun Z T⟨B,e⟩=>?_
 subst B;exact⟨_,rfl,_,_,_,[],_,[],A,trodAll_mk1 (shut_bool Tryz.underlying4 _),(trodAll_cons_mk (Below.trod laidOut (by kernel_rfl) (of_decide_eq_true (by kernel_rfl)) m e G) (trodAll_cons_mk (shut_int Tryz.underlying5 r) trodAll_mk0)),rfl,e.frame _,fun h=>by cases h⟩
theorem over:Rows.scriptRunsRow.holds Tryz.pinned (OpenSpec.ofChange Rows.scriptRunsSpec):=
 OpenClaim.holds_of_wide 3 Tryz.f3 rfl rfl rfl rfl rfl rfl rfl ⟨rfl,rfl,rfl,rfl,rfl⟩ rfl rfl rfl rfl rfl (by kernel_rfl) Tryz.func3 closed
  (of_decide_eq_true (by kernel_rfl)) (by unfold Func.isWrapper;first|(rw[if_pos (by decide+kernel)];kernel_rfl)|(rw[if_neg (by decide+kernel)];exact⟨rfl,rfl⟩))
  (fun c d a b _=>lifted c d a b)
theorem proved:Rows.ScriptRunsCardSaid:=
 Claim7.holds_tied_plain_at .later [] [.data,.data] true _ true over (fun _ h=>by cases h) (by kernel_rfl) (fun _ h=>by cases h) scriptRuns_row_tie rfl ⟨rfl,rfl⟩ (by kernel_rfl) rfl
  (fun d e f g=>by
   obtain rfl:d=3:=Option.some.inj ((by kernel_rfl:_=some 3).symm.trans f)|>.symm;obtain rfl:e=Tryz.f3:=(Option.some.inj (Tryz.func3.symm.trans g)).symm;exact⟨by kernel_rfl,fun b c a=>by
    rw[Tryz.params3]at a;rcases b with _|b
    ·obtain rfl:c=22:=by simpa using a.symm
     kernel_rfl
    rcases b with _|b
    ·obtain rfl:c=5:=by simpa using a.symm
     kernel_rfl
    simp at a⟩)
  (by kernel_rfl)
#print axioms proved
end Go.Proofs.YtfmkofmaabgbkaaGreatDoor.scriptRuns
