import Derived.Test.YteabpacpngaoaaaGreatDoorB11
import Derived.BigRegion
import Derived.Test.YteabpacpngaoaaaGreatDoorB16
namespace Go.Proofs.YteabpacpngaoaaaGreatDoor
open Go.RowKit
def pairsA:List PairB:=[(⟨#[97]⟩,⟨#[]⟩),(⟨#[98]⟩,⟨#[]⟩)]
theorem toListA(l:List UInt8):(⟨l.toArray⟩:ByteArray).toList=l:=by rw[ByteArray.toList_eq]
theorem rightA:rightP pairsA=true:=by
 have h0:(⟨#[]⟩:ByteArray).toList=[]:=toListA [];have h1:(⟨#[97]⟩:ByteArray).toList=[97]:=toListA [97];have h2:(⟨#[98]⟩:ByteArray).toList=[98]:=toListA [98];unfold pairsA rightP;simp only[rightFrom,leS,h0,h1,h2];decide
theorem codeA:codeN 256 [pairsA]=0:=by unfold codeN;simp[rightA]
theorem depthA:(if (5:Int)<1 then (0:Int) else (Lib.bitLen (5:Int).toNat:Int))=3:=by decide
theorem mostA:mostN pairsA 256=3:=by decide
set_option maxHeartbeats 400000 in
theorem awake19_any{F:Nat→Prop}{ad:Nat→Addr}{w:World}(hL:Env F ad w) : Calls Tryz.prog 19 #[] w λe w'=>e=.returned (.bool true)∧Ext w w':=by
 have m0:Mods F w (w.alloc (.cells #[.string ⟨#[97]⟩,.string ⟨#[]⟩,.string ⟨#[98]⟩,.string ⟨#[]⟩] 38)):=(Mods.refl F w).alloc _;have HS:Hid (Sl F (w.alloc (.cells #[.string ⟨#[97]⟩,.string ⟨#[]⟩,.string ⟨#[98]⟩,.string ⟨#[]⟩] 38)) 2 encP (.slice (some ⟨w.heap.size,0,none⟩) 2 2) pairsA) :=
  Lib.hid (Sl.twoB (by exact heap_at rfl) rfl hL.new)
 have HL:=Lib.hid (hL.mods m0);clear hL m0
 go_enter Tryz.func19, Tryz.ntmps19
 go_wp2_with fail;refine (Most_any HL.out _ pairsA 256 HS.out).mono ?_;rintro e w1 ⟨v,ev,rfl,hv,hres,hm⟩;rw[codeA,if_pos rfl,mostA] at hv;subst hv;rw[codeA] at hres;rcases hres with ⟨_,rfl⟩|⟨h,_⟩
 ·go_wp2_with fail;refine (depth_big _ (by omega) (by omega)).mono ?_;rw[depthA];rintro e w' ⟨rfl,rfl⟩;go_wp2
  go_ret;exact⟨rfl,((Mods.refl _ w).alloc _).trans hm⟩
 ·exact absurd rfl h
theorem Tryz.pairSize:(Tryz.prog.info? 38).map (·.size)=some 2:=by kernel_rfl
set_option maxRecDepth 100000 in
theorem short19_any(key v:ByteArray)(w:World) : Calls Tryz.prog 12 #[.agg #[.string key,.string v]] w λe w'=>e=.returned (.agg #[.string key,.string (v.extract 0 (min v.size 300))])∧Ext w w':=by
 obtain⟨q,hq⟩:∃q:Nat,q=min v.size 300:=⟨_,rfl⟩;have hmin:min (v.size:Int) 300=(q:Int):=by omega
 have h1:(q:Int)≤(v.size:Int):=by omega
 have h0:(0:Int)≤(q:Int):=by omega
 rw[← hq];clear hq
 go_enter Tryz.func12, Tryz.ntmps12
 go_wp2_with fail;go_region
 go_wp2_with fail;refine bodyPost_ret (results_cell_row rfl _ _ (w.heap.size+1) 38 #[.string key,.string (v.extract 0 q)] (0,0) _ rfl (Blk.drew (heap_at (by simp))) Tryz.underlying38 rfl Tryz.pairSize) rfl ?_;exact⟨rfl,(((Mods.refl _ w).alloc _).alloc _).drew⟩
end Go.Proofs.YteabpacpngaoaaaGreatDoor
