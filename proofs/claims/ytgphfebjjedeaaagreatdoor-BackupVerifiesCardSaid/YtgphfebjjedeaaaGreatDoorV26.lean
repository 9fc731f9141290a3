import Derived.Deep.RegionWith
import Derived.Deep.QuietTactic
import Derived.BigQuiet
import Derived.Test.YtgphfebjjedeaaaGreatDoorV25
namespace Go.Proofs.YtgphfebjjedeaaaGreatDoor
open Lib renaming hid->oh
section
open Go.RowKit
theorem zDd(s:ByteArray)(w:World) : Calls Tryz.prog 108 #[.string s] w λe w'=>e=.returned (.bool (qP s))/\w'=w:=(zJb s w).mono (by rintro e w' ⟨h1,h2⟩;exact⟨h1,by first|exact h2|exact h2.symm⟩)
theorem zPR(s:ByteArray)(h:qP s=true):leS s ⟨#[]⟩=false:=by
 have hs:=((jX s).1 h).1;have hl:(⟨#[]⟩:ByteArray).toList=[]:=by rw[ByteArray.toList_eq]
 have hne:s.toList≠[]:=by
  intro e;have:=congrArg List.length e;rw[ByteArray.toList_eq] at this;simp at this;rw[this] at hs;simp at hs
 unfold leS;rw[hl];cases hst:s.toList with
 | nil=>exact absurd hst hne
 | cons a r=>rfl
set_option maxHeartbeats 1000000 in
theorem zLr{F:NP}(lv:Value)(l:List zN5)(w:World)(hl:Sl F w 2 vI lv l) :
  Calls Tryz.prog 85 #[lv] w λe w'=>e=.returned (.bool (zDj l))/\zG w w':=by
 obtain⟨a,cap,rfl,h1,h2,h3,h4⟩:=hl;unfold maxLen at h2
 go_enter Tryz.func85, Tryz.ntmps85
 go_wp2
 go_loopg [3] l.length (λn i wr=>∃k:Nat,∃lk:ByteArray,k+n=l.length/\i=.int .i64 k/\Hid (zBO lk (l.drop k)=zDj l)/\Hid (k=0->lk=⟨#[]⟩)/\Hid (∀h:k-1<l.length,0<k->lk=l[k-1].1)/\zG w wr)
 case atStart=>exact⟨0,⟨#[]⟩,by omega,rfl,oh rfl,oh (λ_=>rfl),oh (λ_ h=>by omega),zA.refl _ _⟩
 case round =>
  obtain⟨k,lk,hk,rfl,HQ,H0,H1,hm⟩:=hrel;by_cases hlt:k<l.length
  .obtain⟨b,off,rfl,hb,hF,hc⟩:=Sl.atE h4 hm k hlt;have d0:=hc 0 _ rfl;have d1:=hc 1 _ rfl;simp only[uO] at d0;have hrd:=HQ.out;rw[zHg lk l k hlt] at hrd;have HRD:=oh hrd;clear hrd HQ hc;have i1:(0:Int)<=(k:Int):=by omega
   have i2:(k:Int)<(l.length:Int):=by omega
   cases hkb:qP l[k].1
   .have hf:=oh (show zDj l=false by rw[<- HRD.out,hkb];rfl);clear h4;go_wp2
    go_quiet ((go_at_call 108;exact Calls.quiet_of_same (zDd _ _)))
    go_wp2
    go_ret;exact⟨zY hf.out.symm,hm.drewN _⟩
   .by_cases hsz:l[k].2.size<=4096
    .have hs1:decide ((4096:Int)<(l[k].2.size:Int))=false:=by simp;omega
     by_cases hk0:k=0
     .have hlk:=H0.out hk0;have hnext:Hid (zBO l[k].1 (l.drop (k+1))=zDj l):=oh (by rw[<- HRD.out,hkb,hlk,zPR _ hkb];simp[hsz]);have hz:decide (0<k)=false:=by simp;omega
      have HK:=oh hk0;clear hk0 hlk h4;go_wp2
      go_quiet ((go_at_call 108;exact Calls.quiet_of_same (zDd _ _)))
      go_wp2
      go_roundg (gk-1)
      case measure=>omega
      case rel=>exact⟨k+1,l[k].1,by omega,by go_num,hnext,oh (λh=>by omega),oh (λ_ _=>by simp),hm.drewN _⟩
     .have hlk:=H1.out (by omega) (by omega);obtain⟨b',off',ha,_,_,hc'⟩:=Sl.atE h4 hm (k-1) (by omega);obtain⟨rfl,rfl⟩:b=b'/\off=off':=by simp at ha;exact ha
      have d2:=hc' 0 _ rfl;simp only[uO] at d2;rw[<- hlk] at d2;have hz:decide (0<k)=true:=by simp;omega
      have i3:(0:Int)<=(k:Int)-1:=by omega
      have i4:(k:Int)-1<(l.length:Int):=by omega
      have i5:((k:Int)-1).toNat=k-1:=by omega
      have HK:=oh hk0;have hle:(Op.bytesLess l[k].1.toList lk.toList || l[k].1.toList == lk.toList)=leS l[k].1 lk:=rfl;clear hk0 hlk ha hc' h4;cases hlb:leS l[k].1 lk
      .rw[hlb] at hle;have hnext:Hid (zBO l[k].1 (l.drop (k+1))=zDj l):=oh (by rw[<- HRD.out,hkb,hlb];simp[hsz]);go_wp2
       go_quiet ((go_at_call 108;exact Calls.quiet_of_same (zDd _ _)))
       go_wp2
       go_roundg (gk-1)
       case measure=>omega
       case rel=>exact⟨k+1,l[k].1,by omega,by go_num,hnext,oh (λh=>by omega),oh (λ_ _=>by simp),hm.drewN _⟩
      .rw[hlb] at hle;have hf:=oh (show zDj l=false by rw[<- HRD.out,hkb,hlb];rfl);go_wp2
       go_quiet ((go_at_call 108;exact Calls.quiet_of_same (zDd _ _)))
       go_wp2
       go_ret;exact⟨zY hf.out.symm,hm.drewN _⟩
    .have hs1:decide ((4096:Int)<(l[k].2.size:Int))=true:=by simp;omega
     have hf:=oh (show zDj l=false by rw[<- HRD.out,hkb];simp[hsz]);clear h4;go_wp2
     go_quiet ((go_at_call 108;exact Calls.quiet_of_same (zDd _ _)))
     go_wp2
     go_ret;exact⟨zY hf.out.symm,hm.drewN _⟩
  .have hke:k=l.length:=by omega
   have hf:Hid (zDj l=true):=oh (by rw[<- HQ.out,hke,List.drop_length];rfl);clear HQ hke h4;go_wp2
   go_ret;exact⟨zY hf.out.symm,hm⟩
theorem zPS(a b:ByteArray):qH a b = !leS b a:=by
 unfold qH leS;rcases zEs a b with h|h|h
 .have h1:=zBj h;have h2:=zBt h;unfold qH at h h1;rw[h,h1];have:(b.toList == a.toList)=false:=uS.2 (λe=>h2 (toList_inj e).symm);rw[this];rfl
 .subst h;have:Op.bytesLess a.toList a.toList=false:=by
   cases hh:Op.bytesLess a.toList a.toList with
   | false=>rfl
   | true=>exact absurd rfl (zBt (show qH a a=true from hh))
  rw[this];simp
 .have h1:=zBj h;unfold qH at h h1;rw[h,h1];rfl
theorem zLs:∀(l:List zE) (last:ByteArray),zBO last l=vZ last l
 | [],_=>rfl
 | x :: l,last=>by rw[zBO,vZ,zPS,zLs l x.1]
end
end Go.Proofs.YtgphfebjjedeaaaGreatDoor
