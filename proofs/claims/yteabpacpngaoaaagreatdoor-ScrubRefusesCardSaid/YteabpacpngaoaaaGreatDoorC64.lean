import Derived.Test.YteabpacpngaoaaaGreatDoorC07
namespace Go.Proofs.YteabpacpngaoaaaGreatDoor
open Go.RowKit Go.Extern.Stop Go.Stop Go.Extern
section
variable {F G:Nat->Prop}{ad:Nat->Addr}{w w':World}{v:Value}{l:List Int}{k:Nat}
theorem vB.code(h:vB F ad w v l k):1<=k/\k<=9:=by
 induction h with
 | sent k h1 h2=>exact⟨h1,h2⟩
 | wrap _ _ _ _ _ _ _ _ _ _ ih=>exact ih
end
theorem Tryz.isTypeOf(v:Value)(w:World):(callFunc 189 #[.iface 403 v]).run Tryz.prog w=.ok (.value (.iface 368 (.agg #[.pointer (some ⟨9,403,none⟩)]))) w:=by kernel_rfl
theorem Tryz.isComparable(w:World):(callFunc 318 #[.agg #[.pointer (some ⟨9,403,none⟩)]]).run Tryz.prog w=.ok (.value (.bool true)) w:=by kernel_rfl
theorem Tryz.isComp:(Tryz.prog.info? 403).map (·.comparable)=some true:=by kernel_rfl
theorem Tryz.isSize:(Tryz.prog.info? 426).map (·.size)=some 1:=by kernel_rfl
theorem Tryz.noIsE(v:Value)(xT:TypeId)(w:World):(Instr.typeAssert (.iface 403 v) xT 370 true).run Tryz.prog w=.ok (.tuple #[.nilIface,.bool false]) w:=run_typeAssert_lacksB Tryz.underlying370 (by kernel_rfl) (by kernel_rfl) v xT w
theorem Tryz.noUnwrapE(v:Value)(xT:TypeId)(w:World):(Instr.typeAssert (.iface 403 v) xT 373 true).run Tryz.prog w=.ok (.tuple #[.nilIface,.bool false]) w:=run_typeAssert_lacksB Tryz.underlying373 (by kernel_rfl) (by kernel_rfl) v xT w
theorem Tryz.noUnwrapsE(v:Value)(xT:TypeId)(w:World):(Instr.typeAssert (.iface 403 v) xT 374 true).run Tryz.prog w=.ok (.tuple #[.nilIface,.bool false]) w:=run_typeAssert_lacksB Tryz.underlying374 (by kernel_rfl) (by kernel_rfl) v xT w
theorem Tryz.noIsW(v:Value)(xT:TypeId)(w:World):(Instr.typeAssert (.iface 158 v) xT 370 true).run Tryz.prog w=.ok (.tuple #[.nilIface,.bool false]) w:=run_typeAssert_lacksB Tryz.underlying370 (by kernel_rfl) (by kernel_rfl) v xT w
theorem Tryz.hasUnwrapW(v:Value)(xT:TypeId)(w:World):(Instr.typeAssert (.iface 158 v) xT 373 true).run Tryz.prog w=.ok (.tuple #[.iface 158 v,.bool true]) w:=run_typeAssert_hasB Tryz.underlying373 (by kernel_rfl) v xT w
set_option maxRecDepth 1000000 in
theorem zRD{F:Nat->Prop}{ad:Nat->Addr}{W:World}(hL:yG F ad W)(hfu:zDq ad)(j:Nat)(h1:1<=j)(h9:j<=9)(v:Value)(l:List Int)(k:Nat)(he:vB F ad W v l k) :
  Calls Tryz.prog 190 #[v,.iface 403 (.pointer (some (ad j))),.bool true] W λe w'=>e=.returned (.bool (k == j))/\W=w':=by
 obtain⟨i,hi,hcmp⟩:=Option.map_eq_some_iff.1 Tryz.isComp;obtain⟨jz,hj,hjs⟩:=Option.map_eq_some_iff.1 Tryz.isSize;obtain⟨cb,tb,hb⟩:=hL.row hfu j h1 h9;have nE:=Tryz.noIsE;have uE:=Tryz.noUnwrapE;have vE:=Tryz.noUnwrapsE;have nW:=Tryz.noIsW;have uW:=Tryz.hasUnwrapW;have HL:=Lib.hid hL;have HFU:=Lib.hid hfu;clear hL hfu
 go_enter Tryz.func190, Tryz.ntmps190
 go_wp2
 go_loopg [0] l.length (λn E' wl=>wl=W/\∃l',l'.length=n/\vB F ad W E' l' k)
 case atStart=>exact⟨rfl,l,rfl,he⟩
 case round =>
  obtain⟨rfl,l',hn,hc'⟩:=hrel;cases hc' with
  | sent _ k1 k9 =>
   by_cases hab:k=j
   .subst hab;have heq:=run_eql_iface_ptr_same (P:=Tryz.prog) wr (ad k) Tryz.underlying27 Tryz.underlying403 hi hcmp hj;go_wp2
    go_ret;exact⟨by simp,rfl⟩
   .obtain⟨ca,ta,ha⟩:=HL.out.row HFU.out k k1 k9;have heq:=run_eql_iface_ptr_other (P:=Tryz.prog) wr Tryz.underlying27 Tryz.underlying403 hi hcmp hj (by rw[hjs];decide) (λe=>hab (HL.out.ne HFU.out k j k1 k9 h1 h9 e)) ha hb;go_wp2
    go_ret;exact⟨by simp[hab],rfl⟩
  | wrap b op pg v1 l1 _ hbz hF hcell h2 =>
   have hty:=run_eql_iface_types (P:=Tryz.prog) 158 403 (.pointer (some ⟨b,0,none⟩)) (.pointer (some (ad j))) Tryz.underlying27 (by decide) wr;obtain⟨t1,x1,rfl⟩:=h2.iface;have HC:=Lib.hid h2;clear h2;have hc2:wr.cell? ⟨b,2,none⟩=some (.iface t1 x1):=by rw[qO hcell];rfl
   have HN:=Lib.hid hn;clear hn hcell;go_wp2
   go_roundg l1.length
   case measure=>have:=HN.out;simp at this;omega
   case rel=>exact⟨rfl,l1,rfl,HC.out⟩
theorem zRn{F:Nat->Prop}{ad:Nat->Addr}{W:World}(hL:yG F ad W)(hfu:zDq ad)(j:Nat)(h1:1<=j)(h9:j<=9)(v:Value)(l:List Int)(k:Nat)(he:vB F ad W v l k) :
  Calls Tryz.prog 116 #[v,.iface 403 (.pointer (some (ad j)))] W λe w'=>e=.returned (.bool (k == j))/\W=w':=by
 have tT:=Tryz.isTypeOf;have cT:=Tryz.isComparable;obtain⟨t,x,rfl⟩:=he.iface;have HL:=Lib.hid hL;have HFU:=Lib.hid hfu;clear hL hfu
 go_enter Tryz.func116, Tryz.ntmps116
 go_wp2_with (go_at_call 190;refine (zRD HL.out HFU.out j h1 h9 _ l k he).mono ?_;rintro e w' ⟨rfl,rfl⟩);go_ret;exact⟨rfl,rfl⟩
theorem zQS{F:Nat->Prop}{ad:Nat->Addr}{W:World}(hL:yG F ad W)(hfu:zDq ad)(v:Value)(l:List Int)(k:Nat)(he:vB F ad W v l k) :
  Calls Tryz.prog 71 #[v] W λe w'=>e=.returned (.int .i64 k)/\W=w':=by
 have hk:=he.code;have c1:=hL.c1;have c2:=hL.c2;have c3:=hL.c3;have c4:=hL.c4 hfu;have c5:=hL.c5;have c6:=hL.c6 hfu;have c7:=hL.c7;have c8:=hL.c8 hfu;have c9:=hL.c9 hfu;obtain⟨t,x,rfl⟩:=he.iface;have HL:=Lib.hid hL;have HFU:=Lib.hid hfu;clear hL hfu;obtain rfl|rfl|rfl|rfl|rfl|rfl|rfl|rfl|rfl:k=1\/k=2\/k=3\/k=4\/k=5\/k=6\/k=7\/k=8\/k=9:=by omega
 all_goals
  clear hk
  go_enter Tryz.func71, Tryz.ntmps71
  go_wp2_with (go_at_call 116;refine (zRn HL.out HFU.out _ (by decide) (by decide) _ l _ he).mono ?_;rintro e w' ⟨rfl,rfl⟩);go_ret;exact⟨rfl,rfl⟩
theorem zQT(W:World) : Calls Tryz.prog 71 #[.nilIface] W λe w'=>e=.returned (.int .i64 0)/\W=w':=by
 go_enter Tryz.func71, Tryz.ntmps71
 go_wp2
 go_ret;exact⟨rfl,rfl⟩
end Go.Proofs.YteabpacpngaoaaaGreatDoor
